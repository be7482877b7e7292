/- A part of the proof. -/
import Derived.Test.YthbnddgjkonkdaaGreatDoorSetTree
import Derived.Test.YthbnddgjkonkdaaGreatDoorSetFwL
set_option linter.unusedVariables false
set_option linter.unusedSimpArgs false
namespace Go.Proofs.YthbnddgjkonkdaaGreatDoor
open Go.TR
def tg (l:List Entry)(i:Nat):List Entry:=l.take i++⟨[],[]⟩::l.drop i
theorem LB {l:List Entry}{i:Nat}(h:i≤l.length):(tg l i).length=l.length+1:=by
 unfold tg;rw[ag,aH,aw,aR];omega
@[reducible] def zE:List EV:=[.v (S []),.v (S [])]
@[reducible] def jW (l:List Entry):List EV:=(l.flatMap Entry.row).map EV.v
theorem si (l:List Entry):(jW l).length=l.length * 2:=by rw[ab,dL eI]
theorem tL (a b:List Entry):jW (a++b)=jW a++jW b:=by
 unfold jW;rw[cd,aF]
theorem zG (l:List Entry)(i:Nat):jW (l.take i)=(jW l).take (i * 2):=by
 unfold jW;rw[pd eI,cN]
theorem rE (l:List Entry)(i:Nat)(h:i≤l.length):jW (l.drop i)=(jW l).drop (i * 2):=by
 have e1:jW l=jW (l.take i)++jW (l.drop i):=by rw[←tL,List.take_append_drop]
 have e2:(jW (l.take i)).length=i * 2:=by rw[si,aw];omega
 conv=>rhs;rw[e1]
 exact (List.drop_left' e2).symm
theorem Cb (rs:RL)(l:List Entry):lj rs (jW l):=gy rs (iK l)
theorem Cz (rs:RL):lj rs zE:=Cb rs [⟨[],[]⟩]
theorem tZ (l:List Entry)(i:Nat):jW (tg l i)=jW (l.take i)++(zE++jW (l.drop i)):=by
 unfold tg;rw[tL];rfl
theorem RV {α:Type}(A V z:List α){n k:Nat}(h:A.length=n):(A++V).take n++z++(A++V).drop (n+k)=A++(z++V.drop k):=by
 subst h;rw[List.take_left,List.drop_append,bW (by omega),cX,de,bM]
attribute [local irreducible] vc dT gx fc fA gC gG gw fG Plain eu eR dH VS fq fx fD ju fe IntKind.wrap
set_option maxRecDepth 100000
set_option maxHeartbeats 4000000 in
theorem KM (l:List Entry)(i:Nat)(hi:i≤l.length)(hn:0<l.length)(tA:l.length≤1000){b bv c:Nat}{F:Hp}(hc:l.length≤c):
  eR Tryz.prog F [(1,⟨some bv,zE,122,2⟩),(0,⟨some b,jW l,122,c * 2⟩)] 2 97 [.row 0 0 l.length c,.v (i64 (i:Nat)),.row 1 0 1 1] (fun e F' rs' nx'=>∃b' c',e= .row 9 0 (l.length+1) c'∧F'=F∧nx'=10∧l.length+1≤c'∧rs'=[(9,⟨some b',jW (tg l i),122,c' * 2⟩)]):=by
 refine iQ (N:=95) (rv:=[.tmp 6]) eP mixed Tryz.func97 rfl rfl rfl rfl rfl ?_;have hL:=si l;(refine run ?_;repeat intro b);refine dI rfl rfl rfl ⟨by omega,by omega,by omega⟩ ?_;(refine run ?_;repeat intro b);by_cases hie:i=l.length
 ·subst hie;refine ez true (a8 (fun b=>some (EV.v (.bool b))) (by simp)) (fun _=>?_) (fun h=>by cases h);(refine run ?_;repeat intro b);have hcells:(jW l).take (l.length * 2)++zE=jW (tg l l.length):=by
   rw[tZ,an (by omega),aD,bZ];simp
  refine fv rfl rfl rfl rfl rfl rfl rfl rfl (fb rfl rfl) (Cz _) (fun h=>by cases h) hc rfl (by rw[hL];exact ah _) (by show (_+1) * 32≤_;omega) (fun h=>by cases h) (fun _ b2 c2 hc2=>?_);refine fT (VS.mM (nx':=10) [(2,9)] [25] [(9,⟨some b2,jW (tg l l.length),122,c2 * 2⟩)] (ff ⟨_,rfl,rfl,rfl,rfl,.inl ⟨hcells.symm,fun e he=>fw _ e (hcells ▸ he)⟩⟩ trivial) rfl rfl rfl rfl rfl rfl ?_);(refine run ?_;repeat intro b);exact⟨b2,c2,rfl,rfl,rfl,hc2,rfl⟩
 have hlt:i<l.length:=by omega
 refine ez false (a8 (fun b=>some (EV.v (.bool b))) (by simp;omega)) (fun h=>by cases h) (fun _=>?_);(refine run ?_;repeat intro b);have w1:IntKind.i64.wrap ((l.length:Int)+((1:Nat):Int))=((l.length+1:Nat):Int):=by rw[wrap_i64 (by omega) (by omega)];omega
 have w2:IntKind.i64.wrap (((l.length+1:Nat):Int) - (i:Int))=((l.length+1 - i:Nat):Int):=by rw[wrap_i64 (by omega) (by omega)];omega
 have w3:IntKind.i64.wrap ((i:Int)+((1:Nat):Int))=((i+1:Nat):Int):=by rw[wrap_i64 (by omega) (by omega)];omega
 by_cases hcap:c<l.length+1
 ·refine ez true (a8 (fun b=>some (EV.v (.bool b))) ?_) (fun _=>?_) (fun h=>by cases h)
  ·rw[w1];exact aW (by omega)
  (refine run ?_;repeat intro b);refine dI rfl rfl rfl ⟨by omega,by omega⟩ ?_;(refine run ?_;repeat intro b);rw[w1,w2,ae];refine Pm eP rfl rfl rfl rfl rfl rfl rfl rfl (by omega) (by omega) (by show _ * 32≤_;omega) rfl (by rw[hL];show i * 2≤_;omega) (fun b2 c2 vs hc2 hvs=>?_);have e0:i+(l.length+1 - i)=l.length+1:=by omega
  rw[e0]at hc2 ⊢;have SP:vs.length=(l.length+1 - i) * 2:=hvs;have hA:((jW l).take (i * 2)).length=i * 2:=by rw[aw];omega
  have hso:gR 0 i c2 2=i * 2:=by unfold gR;rw[aY (by omega),aP]
  have Ol:gR 0 (i+1) c2 2=(i+1) * 2:=by unfold gR;rw[aY (by omega),aP]
  have HW:gR 0 i c 2=i * 2:=by unfold gR;rw[aY (by omega),aP]
  have k1:((jW l).take (i * 2)++vs.map EV.v).take (gR 0 i c2 2)++zE++((jW l).take (i * 2)++vs.map EV.v).drop (gR 0 i c2 2+1 * 2)=(jW l).take (i * 2)++(zE++(vs.drop 2).map EV.v):=by
   rw[hso,RV _ _ zE hA,cK]
  have k2:((jW l).take (i * 2)++(zE++(vs.drop 2).map EV.v)).take (gR 0 (i+1) c2 2)++(jW l).drop (i * 2)++((jW l).take (i * 2)++(zE++(vs.drop 2).map EV.v)).drop (gR 0 (i+1) c2 2+(l.length - i) * 2)=jW (tg l i):=by
   have h1:((jW l).take (i * 2)++zE).length=(i+1) * 2:=by rw[ag,hA];show i * 2+2=_;omega
   have h2:(jW l).take (i * 2)++(zE++(vs.drop 2).map EV.v)=((jW l).take (i * 2)++zE)++(vs.drop 2).map EV.v:=(bM _ _ _).symm;have hV:((vs.drop 2).map EV.v).drop ((l.length - i) * 2)=[]:=bW (by rw[ab,aR,SP];omega);rw[Ol,h2,RV _ _ _ h1,hV,bT,tZ,zG,rE l i hi,bM]
  (refine run ?_;repeat intro b);refine dI rfl rfl rfl ⟨by omega,by omega,by omega⟩ ?_;(refine run ?_;repeat intro b);refine yq 1 zE eP rfl rfl rfl rfl rfl rfl rfl (by rw[ae];simp[Nat.min_def];omega) rfl (Cz _) (ah _) (by rw[ae];show gR 0 i c2 2+1 * 2≤_;rw[hso,ag,hA,ab,SP];omega) (rs':=[(2,(⟨some b2,(jW l).take (i * 2)++(zE++(vs.drop 2).map EV.v),122,c2 * 2⟩:kj)),(1,⟨some bv,zE,122,2⟩),(0,⟨some b,jW l,122,c * 2⟩)]) (a8 (fun cs=>some [(2,(⟨some b2,cs,122,c2 * 2⟩:kj)),(1,⟨some bv,zE,122,2⟩),(0,⟨some b,jW l,122,c * 2⟩)]) k1) ?_;(refine run ?_;repeat intro b);refine jK 8 (by kernel_rfl) rfl rfl ?_;(refine run ?_;repeat intro b);rw[w3];refine dI rfl rfl rfl ⟨by omega,by omega,by omega⟩ ?_;(refine run ?_;repeat intro b);refine dI rfl rfl rfl ⟨by omega,by omega,by omega⟩ ?_;(refine run ?_;repeat intro b);have hB:((jW l).take (gR 0 i c 2+(l.length - i) * 2)).drop (gR 0 i c 2)=(jW l).drop (i * 2):=by
   rw[HW,an (by omega)]
  refine yq (l.length - i) ((jW l).drop (i * 2)) eP rfl rfl rfl rfl rfl rfl rfl (by rw[ae,ae];simp[Nat.min_def]) (by rw[ae];exact hB) (by rw[←rE l i hi];exact Cb _ _) (by rw[ae];show gR 0 i c 2+(l.length - i) * 2≤_;rw[HW];omega) (by rw[ae];show gR 0 (i+1) c2 2+(l.length - i) * 2≤_;rw[Ol,ag,hA,ag,ab,aR,SP];show _≤i * 2+(2+_);omega) (rs':=[(2,(⟨some b2,jW (tg l i),122,c2 * 2⟩:kj)),(1,⟨some bv,zE,122,2⟩),(0,⟨some b,jW l,122,c * 2⟩)]) (a8 (fun cs=>some [(2,(⟨some b2,cs,122,c2 * 2⟩:kj)),(1,⟨some bv,zE,122,2⟩),(0,⟨some b,jW l,122,c * 2⟩)]) k2) ?_;(refine lY ?_;repeat intro b);refine mq (VS.mM (nx':=10) [(2,9)] [9] [(9,⟨some b2,jW (tg l i),122,c2 * 2⟩)] (ff ⟨_,rfl,rfl,rfl,rfl,.inl ⟨rfl,fun e he=>fw _ e he⟩⟩ trivial) rfl rfl rfl rfl rfl rfl ?_);(refine run ?_;repeat intro b);exact⟨b2,c2,rfl,rfl,rfl,hc2,rfl⟩
 refine ez false (a8 (fun b=>some (EV.v (.bool b))) ?_) (fun h=>by cases h) (fun _=>?_)
 ·rw[w1];exact aX (by omega)
 (refine run ?_;repeat intro b);rw[w1];refine fT (VS.more 0 2 (fun vs=>[(1,⟨some bv,zE,122,2⟩),(0,⟨some b,jW l++vs.map .v,122,c * 2⟩)]) rfl (fun _=>rfl) (by omega) fun vs hvs=>?_);refine dI rfl rfl rfl ⟨by omega,by omega⟩ ?_;(refine run ?_;repeat intro b);rw[w3];refine dI rfl rfl rfl ⟨by omega,by omega,by omega⟩ ?_;(refine run ?_;repeat intro b);rw[ae,ae];refine Se eP rfl rfl Tryz.func153 (by kernel_rfl) (by kernel_rfl) (by kernel_rfl) (t4:=4) (t:=42) (by kernel_rfl) rfl rfl rfl rfl rfl (by omega) rfl ?_;(refine run ?_;repeat intro b);refine jK 8 (by kernel_rfl) rfl rfl ?_;(refine run ?_;repeat intro b);rw[w3];refine dI rfl rfl rfl ⟨by omega,by omega,by omega⟩ ?_;(refine run ?_;repeat intro b);refine dI rfl rfl rfl ⟨by omega,by omega,by omega⟩ ?_;(refine run ?_;repeat intro b);have Ol:gR 0 (i+1) c 2=(i+1) * 2:=by unfold gR;rw[aY (by omega),aP]
 have HW:gR 0 i c 2=i * 2:=by unfold gR;rw[aY (by omega),aP]
 have hA:((jW l).take ((i+1) * 2)).length=(i+1) * 2:=by rw[aw];omega
 have hB:((jW l++vs.map EV.v).take (gR 0 i c 2+(l.length - i) * 2)).drop (gR 0 i c 2)=(jW l).drop (i * 2):=by
  rw[HW,List.take_left' (by omega)]
 have k1:(jW l++vs.map EV.v).take (gR 0 (i+1) c 2)++(jW l).drop (i * 2)++(jW l++vs.map EV.v).drop (gR 0 (i+1) c 2+(l.length - i) * 2)=(jW l).take ((i+1) * 2)++(jW l).drop (i * 2):=by
  have hV:(jW l++vs.map EV.v).drop ((i+1) * 2+(l.length - i) * 2)=[]:=bW (by rw[ag,hL,ab,hvs];omega);rw[Ol,da (by omega),hV,bT]
 have k2:((jW l).take ((i+1) * 2)++(jW l).drop (i * 2)).take (gR 0 i c 2)++zE++((jW l).take ((i+1) * 2)++(jW l).drop (i * 2)).drop (gR 0 i c 2+1 * 2)=jW (tg l i):=by
  have e1:i * 2+1 * 2=(i+1) * 2:=by omega
  rw[HW,da (by omega),List.take_take,Nat.min_eq_left (by omega),e1,List.drop_left' hA,tZ,zG,rE l i hi,bM]
 refine yq (l.length - i) ((jW l).drop (i * 2)) eP rfl rfl rfl rfl rfl rfl rfl (by rw[ae,ae];simp[Nat.min_def];omega) (by rw[ae];exact hB) (by rw[←rE l i hi];exact Cb _ _) (by rw[ae];show gR 0 i c 2+(l.length - i) * 2≤_;rw[HW,ag];omega) (by rw[ae];show gR 0 (i+1) c 2+(l.length - i) * 2≤_;rw[Ol,ag,hL,ab,hvs];omega) (rs':=[(1,(⟨some bv,zE,122,2⟩:kj)),(0,⟨some b,(jW l).take ((i+1) * 2)++(jW l).drop (i * 2),122,c * 2⟩)]) (a8 (fun cs=>some [(1,(⟨some bv,zE,122,2⟩:kj)),(0,⟨some b,cs,122,c * 2⟩)]) k1) ?_;(refine run ?_;repeat intro b);refine dI rfl rfl rfl ⟨by omega,by omega,by omega⟩ ?_;(refine run ?_;repeat intro b);refine yq 1 zE eP rfl rfl rfl rfl rfl rfl rfl (by rw[ae];simp[Nat.min_def];omega) rfl (Cz _) (ah _) (by rw[ae];show gR 0 i c 2+1 * 2≤_;rw[HW,ag,hA,aR];omega) (rs':=[(1,(⟨some bv,zE,122,2⟩:kj)),(0,⟨some b,jW (tg l i),122,c * 2⟩)]) (a8 (fun cs=>some [(1,(⟨some bv,zE,122,2⟩:kj)),(0,⟨some b,cs,122,c * 2⟩)]) k2) ?_;(refine lY ?_;repeat intro b);refine mq (VS.mM (nx':=10) [(0,9)] [0] [(9,⟨some b,jW (tg l i),122,c * 2⟩)] (ff ⟨_,rfl,rfl,rfl,rfl,.inl ⟨rfl,fun e he=>fw _ e he⟩⟩ trivial) rfl rfl rfl rfl rfl rfl ?_);(refine run ?_;repeat intro b);exact⟨b,c,rfl,rfl,rfl,by omega,rfl⟩
end Go.Proofs.YthbnddgjkonkdaaGreatDoor
namespace Go.TR
theorem iu.U7 {P:Program}{F:Hp}{f:FuncId}{args:List Value}{Q Q':Value→Hp→Prop}(h:iu P F f args Q)(hq: ∀x F',F.sub F'→Q x F'→Q' x F'):iu P F f args Q':=fun w hw=>by
 refine (h w hw).mono fun e w' hh=>?_;obtain⟨x,F',new,h1,h2,h3,h4,h5,h6,h7,h8,h9⟩:=hh;exact⟨x,F',new,h1,h2,h3,h4,h5,h6,h7,h8,hq x F' h2 h9⟩
end Go.TR
namespace Go.Proofs.YthbnddgjkonkdaaGreatDoor
open Go.TR
def mS (l:List Entry)(n v:List UInt8):Int:=if jz l n≠0 then jz l n else if eJ n v≠0 then eJ n v else if lG l n=false∧l.length=24 then 7 else 0
def w7 (l:List Entry)(n v:List UInt8):List Entry:=if mS l n v=0 then ko l n v else []
theorem yL {l:List Entry}{n v:List UInt8}(h:mS l n v≠0):w7 l n v=[]:=by unfold w7;rw[aY h]
theorem Bu {α:Type}(A B z y:List α){n k:Nat}(h:A.length=n)(hk:y.length=k):(A++(y++B)).take n++z++(A++(y++B)).drop (n+k)=A++(z++B):=by
 rw[RV _ _ _ h,List.drop_left' hk]
theorem O8 {l:List Entry}{n:List UInt8}(v:List UInt8){i:Nat}(hi:i≤l.length)(hlb:lI l n=i)(hh:lG l n=false):(jW (tg l i)).take (i * 2)++[.v (S n),.v (S v)]++(jW (tg l i)).drop (i * 2+2)=jW (ko l n v):=by
 have hA:(jW (l.take i)).length=i * 2:=by rw[si,aw];omega
 rw[tZ,Bu (k:=2) (jW (l.take i)) (jW (l.drop i)) _ zE hA rfl];unfold ko nR;rw[hlb,hh,tL];rfl
theorem OB {l:List Entry}(hb:oh l){n:List UInt8}(v:List UInt8){i:Nat}(hi:i<l.length)(hlb:lI l n=i)(hh:lG l n=true):(jW l).take (i * 2)++[.v (S n),.v (S v)]++(jW l).drop (i * 2+2)=jW (ko l n v):=by
 have e1:i * 2+2=(i+1) * 2:=by omega
 unfold ko nR;rw[hlb,hh,aZ rfl,tL,zG,e1,←rE l (i+1) hi,bM];rfl
attribute [local irreducible] ahead kN ej jS eL dV gg lI lG jz eJ
attribute [local irreducible] vc dT gx fc fA gC gG gw fG Plain eu eR dH VS fq fx fD ju fe IntKind.wrap
set_option maxRecDepth 100000
theorem me (cs:List Value)(n:Nat){p:Option Addr}{c:Nat}{F:Hp}(hl:cs.length=n * 2)(hf:eY F p cs)(h1: ∀x∈cs,Go.TR.one (.v x)=true)(hb:n * 32≤140737488355328):eu Tryz.prog F 43 [.slice p n c] (fun x _ new=>ml 122 2 cs n x new):=by
 refine fU (N:=8) (rv:=[.tmp 2]) eP mixed Tryz.func43 rfl rfl rfl rfl rfl ?_;(refine run ?_;repeat intro b);refine p9 (b:=p.isNone) eP rfl rfl rfl ?_;cases p with
 | none=>
  have hn:n=0:=by
   rcases dh n with h | h
   ·exact h
   have:=dO hf (j:=0) (by rw[hl];omega);cases this
  subst hn;(refine run ?_;repeat intro b);refine eM (VS.id ⟨_,rfl,.inl ⟨rfl,rfl,none,rfl⟩⟩)
 | some a=>
  (refine run ?_;repeat intro b);refine fv rfl rfl rfl rfl rfl rfl rfl rfl (iV hl hf) (gy _ h1) (fun h=>by cases h) (ah 0) rfl (az _) (by show (0+n) * 32≤_;omega) (fun hn=>?_) (fun hn b2 c2 hc2=>?_)
  ·subst hn;(refine run ?_;repeat intro b);refine eM ?_;refine VS.freeze 0 [2] rfl (cs:=[]) rfl rfl rfl fun F' hs1 hf1=>VS.id ⟨_,rfl,.inl ⟨rfl,rfl,_,rfl⟩⟩
  (refine run ?_;repeat intro b);simp only[aP]at hc2 ⊢;refine mI (qN.mM (nx':=1) [(1,0)] [2] [(0,⟨some b2,cs.map EV.v,122,c2 * 2⟩)] (ff ⟨_,rfl,rfl,rfl,rfl,.inl ⟨rfl,fun e he=>fw _ e he⟩⟩ trivial) rfl rfl rfl rfl rfl rfl ⟨_,rfl,.inr ⟨hn,b2,c2,hc2,rfl,rfl⟩⟩)
set_option maxHeartbeats 4000000 in
theorem Hf {p:Option Addr}{bv:Nat}{F:Hp}:
  eR Tryz.prog F [(0,⟨some bv,zE,122,2⟩)] 1 97 [.v (.slice p 0 0),.v (i64 ((0:Nat):Nat)),.row 0 0 1 1] (fun e F' rs' nx'=>∃b' c',e= .row 9 0 1 c'∧F'=F∧nx'=10∧1≤c'∧rs'=[(9,⟨some b',zE,122,c' * 2⟩)]):=by
 refine iQ (N:=95) (rv:=[.tmp 6]) eP mixed Tryz.func97 rfl rfl rfl rfl rfl ?_;(refine run ?_;repeat intro b);refine jy [] rfl rfl rfl rfl rfl rfl rfl (eG _ _) (fb rfl rfl) (Cz _) (by decide) (fun h=>by cases h) (fun _ b2 c2 hc2=>?_);refine fT (VS.mM (nx':=10) [(1,9)] [25] [(9,⟨some b2,zE,122,c2 * 2⟩)] (ff ⟨_,rfl,rfl,rfl,rfl,.inl ⟨rfl,fun e he=>fw [_,_] e he⟩⟩ trivial) rfl rfl rfl rfl rfl rfl ?_);(refine run ?_;repeat intro b);exact⟨b2,c2,rfl,rfl,rfl,by omega,rfl⟩
set_option maxHeartbeats 4000000 in
theorem GU (l:List Entry)(n v:List UInt8)(hl:l.length≤4611686018427387904)(hw: ∀x∈l,x.wf)(hn:n.length≤4611686018427387904){p:Option Addr}{c:Nat}{F:Hp}(hf:eY F p (l.flatMap Entry.row)):iu Tryz.prog F 45 [.slice p l.length c,S n,S v] (fun x F'=>∃p' c',x=pair (.slice p' (w7 l n v).length c') (i64 (mS l n v))∧eY F' p' ((w7 l n v).flatMap Entry.row)):=by
 refine fU (N:=52) (rv:=[.tmp 6,.tmp 7]) eP mixed Tryz.func45 rfl rfl rfl rfl rfl ?_;(refine run ?_;repeat intro b);refine dG _ rfl rfl rfl V5 rfl (vW l n hl hw hn hf) ?_;by_cases h0:jz l n=0
 ·obtain⟨h1,h2⟩:=qc h0;obtain⟨tA,hgood,_⟩:=fL h1;have hb:=qz h1;have e1:pA l n=lI l n:=by unfold pA;rw[aZ h0]
  have e2:k6 l n=lG l n:=by unfold k6;rw[h0];rfl
  have hlb:=H0 l n;rw[h0,e1,e2];(refine run ?_;repeat intro b);refine dG _ rfl rfl rfl V4 rfl (tB n v hn F) ?_;(refine run ?_;repeat intro b);refine ez (decide (eJ n v≠0)) ?_ (fun h=>?_) (fun h=>?_)
  ·refine dS ?_;rw[ai];simp
  ·have h:=ar h;have e:mS l n v=eJ n v:=by unfold mS;rw[aY (by simpa using h0),aZ h]
   rw[yL (by rw[e];exact h),e];(refine run ?_;repeat intro b);exact eM (VS.id ⟨_,rfl,rfl,none,0,rfl,eG _ _⟩)
  have ha:eJ n v=0:=by simpa using h
  have eS:mS l n v=if lG l n=false∧l.length=24 then 7 else 0:=by unfold mS;rw[aY (by simpa using h0),aY (by simpa using ha)]
  have hfl:=dL eI l;cases hh:lG l n with
  | true=>
   have e:mS l n v=0:=by rw[eS,hh];rfl
   have eO:w7 l n v=ko l n v:=by unfold w7;rw[aZ e]
   obtain⟨hlt,_⟩:=(qb hb n).1 hh;have hput:=fun hi h=>OB hb v (i:=lI l n) hi h hh;have hsl:(ko l n v).length=l.length:=by rw[xn hb,hh];rfl
   rw[e,eO,hsl];generalize lI l n=i at *;have hput:=hput hlt rfl;(refine run ?_;repeat intro b);refine nA (R:=fun _ cs=>cs=l.flatMap Entry.row) (fun x F' new h=>⟨_,h,rfl⟩) rfl rfl rfl EF rfl (me (l.flatMap Entry.row) l.length hfl hf (iK _) (by omega)) (fun hk0 _ _ _ _ _=>by omega) (fun hk1 F1 b1 c1 cs hF1 hc1 hcs=>?_);subst hcs;(refine run ?_;repeat intro b);refine dI rfl rfl rfl ⟨by omega,by omega,_,_,rfl,rfl⟩ ?_;refine iP (jW (ko l n v)) rfl rfl rfl rfl rfl rfl (by rw[ae];show 0+i * 2+2≤_;rw[si l];omega) (by rw[ae,aP];exact hput) rfl ?_;(refine run ?_;repeat intro b);refine eM ?_;refine VS.freeze 0 [6,7] rfl (eD _) rfl rfl fun F' hs1 hf1=>VS.id ⟨_,rfl,rfl,_,_,rfl,hf1⟩
  | false=>
   have hins:=fun hi h=>O8 (l:=l) (n:=n) v (i:=lI l n) hi h hh;have hsl:(ko l n v).length=l.length+1:=by rw[xn hb,hh];rfl
   have hins:=hins hlb rfl;generalize lI l n=i at *;(refine run ?_;repeat intro b);refine ez (decide (l.length=24)) ?_ (fun h=>?_) (fun h=>?_)
   ·refine dS ?_;rw[ai,beq_iff_eq,av];omega
   ·have e:mS l n v=7:=by rw[eS,hh,aZ ⟨rfl,ar h⟩]
    rw[yL (by rw[e];decide),e];(refine run ?_;repeat intro b);exact eM (VS.id ⟨_,rfl,rfl,none,0,rfl,eG _ _⟩)
   have h:=au h;have e:mS l n v=0:=by rw[eS,aY (fun h2=>h h2.2)]
   have eO:w7 l n v=ko l n v:=by unfold w7;rw[aZ e]
   rw[e,eO,hsl];by_cases hl0:l.length=0
   ·obtain rfl:=aq hl0;obtain rfl:i=0:=by simpa using hlb
    (refine run ?_;repeat intro b);refine nA (R:=fun _ cs=>cs=([]:List Entry).flatMap Entry.row) (fun x F' new h=>⟨_,h,rfl⟩) rfl rfl rfl EF rfl (me (([]:List Entry).flatMap Entry.row) 0 hfl hf (iK _) (by omega)) (fun hk0 F1 p1 cs hF1 hcs=>?_) (fun hk1 _ _ _ _ _ _ _=>absurd hk1 (by decide));(refine run ?_;repeat intro b);refine om rfl rfl rfl Vm rfl Hf ?_;rintro _ _ _ _ _ _ ⟨b2,c2,rfl,rfl,rfl,hc2,rfl⟩;(refine run ?_;repeat intro b);refine dI rfl rfl rfl ⟨by omega,by omega,_,_,rfl,rfl⟩ ?_;refine iP (jW (ko [] n v)) rfl rfl rfl rfl rfl rfl (by rw[ae];show 0+0 * 2+2≤_;rw[show zE.length=2 from rfl];omega) (by rw[ae,aP];exact hins) rfl ?_;(refine run ?_;repeat intro b);refine eM ?_;refine VS.freeze 9 [6,7] rfl (eD _) rfl rfl fun F' hs1 hf1=>VS.id ⟨_,rfl,rfl,_,_,rfl,hf1⟩
   (refine run ?_;repeat intro b);refine nA (R:=fun _ cs=>cs=l.flatMap Entry.row) (fun x F' new h=>⟨_,h,rfl⟩) rfl rfl rfl EF rfl (me (l.flatMap Entry.row) l.length hfl hf (iK _) (by omega)) (fun hk0 _ _ _ _ _=>by omega) (fun hk1 F1 b1 c1 cs hF1 hc1 hcs=>?_);subst hcs;(refine run ?_;repeat intro b);refine om rfl rfl rfl Vm rfl (KM l i hlb hk1 (by omega) hc1) ?_;rintro _ _ _ _ _ _ ⟨b2,c2,rfl,rfl,rfl,hc2,rfl⟩;(refine run ?_;repeat intro b);refine dI rfl rfl rfl ⟨by omega,by omega,_,_,rfl,rfl⟩ ?_;refine iP (jW (ko l n v)) rfl rfl rfl rfl rfl rfl (by rw[ae];show 0+i * 2+2≤_;rw[si,LB hlb];omega) (by rw[ae,aP];exact hins) rfl ?_;(refine run ?_;repeat intro b);refine eM ?_;refine VS.freeze 9 [6,7] rfl (eD _) rfl rfl fun F' hs1 hf1=>VS.id ⟨_,rfl,rfl,_,_,rfl,hf1⟩
 have e:mS l n v=jz l n:=by unfold mS;rw[aZ h0]
 rw[yL (by rw[e];exact h0),e];have e2:pA l n=0:=by unfold pA;rw[aY h0]
 have e3:k6 l n=false:=by unfold k6;rw[aX h0];rfl
 rw[e2,e3];(refine run ?_;repeat intro b);refine ez false (a8 (fun b=>some (EV.v (.bool b))) (by simpa using h0)) (fun h=>by cases h) (fun _=>?_);(refine run ?_;repeat intro b);refine ez true (a8 (fun b=>some (EV.v (.bool b))) (by simpa using h0)) (fun _=>?_) (fun h=>by cases h);(refine run ?_;repeat intro b);exact eM (VS.id ⟨_,rfl,rfl,none,0,rfl,eG _ _⟩)
end Go.Proofs.YthbnddgjkonkdaaGreatDoor
namespace Go.TR
section
variable {P:Program} {tb:Tb} {N:Nat} {KK:Exit→St→Prop} {st:St}
theorem VS.shut {env:Env}(env':Option Addr→Env){F:Hp}{rs rs':RL}{nx:Nat}{G:St→Prop}(id:Nat){gl:Option Nat}{cells:List EV}{ty:TypeId}{cap:Nat}{cs:List Value}(slots:List Nat)(hr:fR rs id=some ⟨gl,cells,ty,cap⟩)(hcs:iU rs cells=some cs)(h1: ∀b,iq (u9 b id rs)=some rs')(h2:iq (Go.TR.iy [id] rs)=some rs')
  (h3: ∀b,Go.TR.eH (At b id env) slots=some (env' (some ⟨b,0,none⟩))) (h4:Go.TR.eH (GI id env) slots=some (env' none)) (k: ∀F' p',F.sub F'→eY F' p' cs→G ⟨env' p',F',rs',nx⟩) (hty:Nat.beq ty 0=false:=by rfl):VS N [] ⟨env,F,rs,nx⟩ G:=by
 cases gl with
 | none=>
  refine VS.FL hr (fun e=>by rw[e]at hty;cases hty) fun⟨hc,_⟩=>VS.NM id slots hr h4 (VS.iy [id] h2 (VS.id (k F none (Hp.sub.refl F) ?_)));subst hc;cases hcs;exact fun j u h=>by simp at h
 | some b=>exact VS.freeze id slots hr hcs (h1 b) (h3 b) fun F' hs hf=>VS.id (k F' _ hs hf)
end
end Go.TR
namespace Go.Proofs.YthbnddgjkonkdaaGreatDoor
open Go.TR
attribute [local irreducible] ahead kN ej jS eL dV gg js two
attribute [local irreducible] vc dT gx fc fA gC gG gw fG Plain eu eR dH VS fq fx fD ju fe IntKind.wrap
set_option maxRecDepth 100000
theorem A1 {l:List Entry}(h: ¬l.length=0):jt l=1::(l.take l.length).flatMap zD:=by
 unfold jt;rw[aY h,aD]
theorem A2 {l:List Entry}{k:Nat}(h:k<l.length):(l.take (k+1)).flatMap zD=(l.take k).flatMap zD++zD l[k]:=by
 rw[al h,cd];simp
set_option maxHeartbeats 1000000 in
theorem rl (l:List Entry)(hl:l.length≤24)(hw: ∀x∈l,x.wf){p:Option Addr}{c:Nat}{F:Hp}(hf:eY F p (l.flatMap Entry.row)):Plain Tryz.prog F 215 [.slice p l.length c] (S (jt l)):=by
 refine dN (N:=35) (rv:=[.tmp 2]) eP mixed Tryz.func215 rfl rfl rfl rfl rfl ?_;(refine run ?_;repeat intro b);refine ez (decide (l.length=0)) ?_ (fun h=>?_) (fun h=>?_)
 ·refine dS ?_;rw[ai];simp
 ·have e:jt l=[0]:=by unfold jt;rw[aZ (ar h)]
  rw[e];(refine run ?_;repeat intro b);refine qo [0] rfl rfl rfl rfl (ah 1) rfl ?_;(refine run ?_;repeat intro b);rfl
 rw[A1 (au h)];(refine run ?_;repeat intro b);refine qo [1] rfl rfl rfl rfl (ah 1) rfl ?_;(refine run ?_;repeat intro b);refine eU (fun q:Hp×Nat=>F.sub q.1∧q.2≤l.length) (fun q=>⟨[(3,.v (S (1::(l.take q.2).flatMap zD))),(15,.v (.slice p l.length c)),(16,.v (i64 (l.length:Nat))),(17,.v (i64 (q.2:Nat)))],q.1,[],1⟩) (fun q=>l.length - q.2) (F,0) ⟨Hp.sub.refl _,az _⟩ (VS.iy [0] rfl (VS.eH [3,15,16,17] rfl rfl)) ?_;rintro⟨F0,k⟩ ⟨hF,hk⟩;dsimp only at hF hk ⊢;have hf0:=dZ hF hf;by_cases hlt:k<l.length
 ·obtain⟨o1,o2⟩:=eZ eI (by decide) hf0 k hlt;have hsn:=A2 hlt;have hlen:=pK (l.take k);rw[aw]at hlen;generalize l[k]=x at o2 hsn;have hx:=lx [x.name,x.value];have ex:zD x=js [x.name,x.value]:=rfl;(refine run ?_;repeat intro b);refine gm rfl (by omega) ?_;(refine run ?_;repeat intro b);refine dI rfl rfl rfl ⟨by omega,by omega,dO hf0 (j:=k * 2) (by rw[dL eI];omega)⟩ ?_;refine fy x.row rfl rfl rfl rfl rfl (by rw[ae];exact o1) (by rw[ae];exact o2) ?_;(refine run ?_;repeat intro b);refine fT (VS.freeze 2 [3,15,16,17,26] rfl rfl rfl rfl fun F1 hs1 hf1=>VS.id ?_);refine dG _ rfl rfl rfl Qo rfl (M9 [x.name,x.value] hf1) ?_;rw[B2,←ex];(refine run ?_;repeat intro b);refine dI rfl rfl rfl (by simp only[fX,aH];rw[ex];unfold jg;omega) ?_;(refine run ?_;repeat intro b);rw[dQ (by omega)];exact iH (F1,k+1) [1] [3,15,16,17] ⟨hF.trans hs1,hlt⟩ (by simp only;omega) rfl (by simp only[fX];rw[hsn];rfl) rfl rfl trivial rfl
 have hge:k=l.length:=by omega
 subst hge;(refine run ?_;repeat intro b);refine gu rfl (by omega) ?_;(refine run ?_;repeat intro b);rfl
set_option maxHeartbeats 1000000 in
theorem v9 (l:List Entry)(hl:l.length≤24)(hw: ∀x∈l,x.wf){p:Option Addr}{c:Nat}{F:Hp}(hf:eY F p (l.flatMap Entry.row)):Plain Tryz.prog F 188 [.slice p l.length c] (S (jt l)):=by
 refine dN (N:=31) (rv:=[.tmp 2]) eP mixed Tryz.func188 rfl rfl rfl rfl rfl ?_;(refine run ?_;repeat intro b);refine ez (decide (l.length=0)) ?_ (fun h=>?_) (fun h=>?_)
 ·refine dS ?_;rw[ai];simp
 ·have e:jt l=[0]:=by unfold jt;rw[aZ (ar h)]
  rw[e];(refine run ?_;repeat intro b);rfl
 rw[A1 (au h)];(refine run ?_;repeat intro b);refine eU (fun q:Hp×Nat=>F.sub q.1∧q.2≤l.length) (fun q=>⟨[(3,.v (S (1::(l.take q.2).flatMap zD))),(11,.v (.slice p l.length c)),(12,.v (i64 (l.length:Nat))),(13,.v (i64 (q.2:Nat)))],q.1,[],0⟩) (fun q=>l.length - q.2) (F,0) ⟨Hp.sub.refl _,az _⟩ (VS.eH [3,11,12,13] rfl rfl) ?_;rintro⟨F0,k⟩ ⟨hF,hk⟩;dsimp only at hF hk ⊢;have hf0:=dZ hF hf;by_cases hlt:k<l.length
 ·obtain⟨o1,o2⟩:=eZ eI (by decide) hf0 k hlt;have hsn:=A2 hlt;have hlen:=pK (l.take k);rw[aw]at hlen;generalize l[k]=x at o2 hsn;have hx:=lx [x.name,x.value];have ex:zD x=js [x.name,x.value]:=rfl;(refine run ?_;repeat intro b);refine gm rfl (by omega) ?_;(refine run ?_;repeat intro b);refine dI rfl rfl rfl ⟨by omega,by omega,dO hf0 (j:=k * 2) (by rw[dL eI];omega)⟩ ?_;refine fy x.row rfl rfl rfl rfl rfl (by rw[ae];exact o1) (by rw[ae];exact o2) ?_;(refine run ?_;repeat intro b);refine fT (VS.freeze 1 [3,11,12,13,22] rfl rfl rfl rfl fun F1 hs1 hf1=>VS.id ?_);refine dG _ rfl rfl rfl Qx rfl (ES [x.name,x.value] (by simp) hf1) ?_;rw[←ex];(refine run ?_;repeat intro b);refine dI rfl rfl rfl (by simp only[fX,aH];rw[ex];unfold jg;omega) ?_;(refine run ?_;repeat intro b);rw[dQ (by omega)];exact iH (F1,k+1) [0] [3,11,12,13] ⟨hF.trans hs1,hlt⟩ (by simp only;omega) rfl (by simp only[fX];rw[hsn];rfl) rfl rfl trivial rfl
 have hge:k=l.length:=by omega
 subst hge;(refine run ?_;repeat intro b);refine gu rfl (by omega) ?_;(refine run ?_;repeat intro b);rfl
theorem qW (x y:Nat)(hx:x<18446744073709551616)(hy:y<18446744073709551616)(F:Hp):Plain Tryz.prog F 190 [u64 (x:Nat),u64 (y:Nat)] (S (kX x y)):=by
 refine dN (N:=18) (rv:=[.tmp 4]) eP mixed Tryz.func190 rfl rfl rfl rfl rfl ?_;(refine run ?_;repeat intro b);have hm:Plain Tryz.prog F 67 [S [0]] (u64 (jX:Nat)):=jU [0] (by decide) F;refine dG _ rfl rfl rfl vQ rfl hm ?_;unfold kX;generalize jX=z;(refine run ?_;repeat intro b);refine ez (decide (x=z∧y=z)) ?_ (fun h=>?_) (fun h=>?_)
 ·refine dS ?_;rw[fH,ai];simp;omega
 ·rw[aZ (ar h)];(refine run ?_;repeat intro b);rfl
 rw[aY (au h)];(refine run ?_;repeat intro b);refine dG _ rfl rfl rfl Vw rfl (Jv 2 x y (by decide) hx hy F) ?_;(refine run ?_;repeat intro b);rfl
def sH (l:List Entry):List UInt8:=(l.getD 0 ⟨[],[]⟩).name
def sG (l:List Entry):List UInt8:=(l.getD (l.length - 1) ⟨[],[]⟩).name
def rR (l:List Entry):Int:=if dV l≠0 then dV l else if 0<l.length∧ej (sH l)≠ej (sG l) then 3 else 0
def ud (l:List Entry):List UInt8:=if rR l=0 then jt l else []
set_option maxHeartbeats 1000000 in
theorem wL (l:List Entry)(hl:l.length≤4611686018427387904)(hw: ∀x∈l,x.wf){p:Option Addr}{c:Nat}{F:Hp}(hf:eY F p (l.flatMap Entry.row)):Plain Tryz.prog F 271 [.slice p l.length c] (pair (S (ud l)) (i64 (rR l))):=by
 refine dN (N:=31) (rv:=[.tmp 2,.tmp 3]) eP mixed Tryz.func271 rfl rfl rfl rfl rfl ?_;(refine run ?_;repeat intro b);refine dG _ rfl rfl rfl Ma rfl (mw l hl hw hf) ?_;have hO: ∀e,rR l=e→e≠0→ud l=[]:=fun e h h0=>by unfold ud;rw[h,aY h0]
 (refine run ?_;repeat intro b);refine ez (decide (dV l≠0)) ?_ (fun h=>?_) (fun h=>?_)
 ·refine dS ?_;rw[ai];simp
 ·have e:rR l=dV l:=by unfold rR;rw[aZ (ar h)]
  rw[hO _ e (ar h),e];(refine run ?_;repeat intro b);rfl
 have e:rR l=if 0<l.length∧ej (sH l)≠ej (sG l) then 3 else 0:=by unfold rR;rw[aY (au h)]
 have h0:dV l=0:=by simpa using h
 obtain⟨tA,hgood,_⟩:=fL h0;(refine run ?_;repeat intro b);refine fM (by kernel_rfl) ?_;(refine run ?_;repeat intro b);have hk0:decide ((0:Int)<(l.length:Int))=true→0<l.length:=fun h=>by have:=ar h;omega
 have ew:0<l.length→IntKind.i64.wrap ((l.length:Int) - 1)=((l.length - 1:Nat):Int):=fun h=>by rw[wrap_i64 (by omega) (by omega)];omega
 have g0:0<l.length→(im p (0 * 2)).isSome=true∧gb F (im (im p (0 * 2)) 0)=some (S (sH l)):=fun h=>by
  obtain⟨q1,q2⟩:=eZ eI (by decide) hf 0 h;have e2:sH l=l[0].name:=by unfold sH;rw[aE,ao h];rfl
  rw[e2];exact⟨q1,q2 0 (by decide)⟩
 have g1:0<l.length→(im p ((l.length - 1) * 2)).isSome=true∧gb F (im (im p ((l.length - 1) * 2)) 0)=some (S (sG l)):=fun h=>by
  obtain⟨q1,q2⟩:=eZ eI (by decide) hf (l.length - 1) (by omega);have e2:sG l=l[l.length - 1].name:=by unfold sG;rw[aE,ao (by omega)];rfl
  rw[e2];exact⟨q1,q2 0 (by decide)⟩
 have w0:(sH l).length≤4611686018427387904:=by
  unfold sH;by_cases h:0<l.length
  ·rw[aE,ao h];exact (hw _ (aj h)).name
  rw[aE,cy (by omega)];exact az _
 have w1:(sG l).length≤4611686018427387904:=by
  unfold sG;by_cases h:0<l.length
  ·rw[aE,ao (by omega)];exact (hw _ (aj _)).name
  rw[aE,cy (by omega)];exact az _
 have n0:0<l.length→eL (sH l)=true∧eL (sG l)=true:=fun h=>by
  unfold sH sG;rw[aE,ao h,aE,ao (by omega)];exact⟨(hgood _ (aj h)).1,(hgood _ (aj _)).1⟩
 generalize sH l=x0 at *;generalize sG l=x1 at *;refine iw rfl rfl rfl rfl rfl (fun hg=>⟨by omega,by have:=hk0 hg.1;omega,dO hf (j:=0) (by rw[dL eI];have:=hk0 hg.1;omega)⟩) ?_;(refine run ?_;repeat intro b);refine iw rfl rfl rfl rfl rfl (fun hg=>(g0 (hk0 hg.1)).1) ?_;(refine run ?_;repeat intro b);refine sg (S x0) rfl rfl rfl rfl rfl rfl (fun hg=>(g0 (hk0 hg.1)).2) ?_;(refine run ?_;repeat intro b);refine gi _ rfl rfl rfl rfl FB rfl rfl (fun hg=>nN x0 w0 F) ?_;(refine run ?_;repeat intro b);refine iw rfl rfl rfl rfl rfl (fun hg=>?_) ?_
 ·have h:=hk0 hg.1;rw[ew h];exact⟨by omega,by omega,dO hf (j:=(l.length - 1) * 2) (by rw[dL eI];omega)⟩
 (refine run ?_;repeat intro b);refine iw rfl rfl rfl rfl rfl (fun hg=>?_) ?_
 ·have h:=hk0 hg.1;rw[ew h,ae];exact (g1 h).1
 (refine run ?_;repeat intro b);refine sg (S x1) rfl rfl rfl rfl rfl rfl (fun hg=>?_) ?_
 ·have h:=hk0 hg.1;rw[ew h,ae];exact (g1 h).2
 (refine run ?_;repeat intro b);refine gi _ rfl rfl rfl rfl FB rfl rfl (fun hg=>nN x1 w1 F) ?_;(refine run ?_;repeat intro b);refine ez (decide (0<l.length∧ej x0≠ej x1)) ?_ (fun h=>?_) (fun h=>?_)
 ·refine dS ?_;rw[fH,ai];by_cases h:0<l.length
  ·obtain⟨q0,q1⟩:=n0 h;unfold jS;rw[aZ q0,aZ q1,show decide ((0:Int)<(l.length:Int))=true from aW (by omega)];simp[h];exact⟨fun h=>au h,fun h=>aX h⟩
  rw[show decide ((0:Int)<(l.length:Int))=false from aX (by omega)];simp[h]
 ·rw[aZ (ar h)]at e;rw[hO _ e (by decide),e];(refine run ?_;repeat intro b);rfl
 rw[aY (au h)]at e;have e2:ud l=jt l:=by unfold ud;rw[aZ e]
 rw[e2,e];(refine run ?_;repeat intro b);refine dG _ rfl rfl rfl Ny rfl (rl l tA hw hf) ?_;(refine run ?_;repeat intro b);rfl
theorem Bx (p:jn)(k:Nat):((lH p (k+1)).map S).map EV.v=((lH p k).map S).map EV.v++[EV.v (S (kd p k))]:=by
 rw[Kb];simp
theorem Bc:rR []=0:=by
 have:dV []=0:=by unfold dV;rfl
 unfold rR;rw[this];rfl
theorem JS:ud []=[0]:=by
 unfold ud;rw[aZ Bc];rfl
theorem AZ {p:jn}(h:fS p=0):rR p.fZ=0:=by
 obtain⟨_,h2,h3,_,_⟩:=kL h;have e: ∀i,i<p.fZ.length→ej (p.fZ.getD i ⟨[],[]⟩).name=ej p.name:=fun i hi=>by
  rw[aE,ao hi];exact h3 _ (aj hi)
 unfold rR;rw[aY (by rw[h2];decide),aY];rintro⟨h4,h5⟩;exact h5 ((e 0 h4).trans (e (p.fZ.length - 1) (by omega)).symm)
set_option maxHeartbeats 4000000 in
theorem Db (p:jn)(a:Lay)(hw:p.wf){F:Hp}(hf:p.at F a):iu Tryz.prog F 221 [p.v a] (fun x F'=>∃p' c',x=pair (.slice p' (na p).length c') (i64 (fS p))∧(na p).length≤c'∧eY F' p' ((na p).map S)):=by
 refine fU (N:=74) (rv:=[.tmp 2,.tmp 3]) eP mixed Tryz.func221 rfl rfl rfl rfl rfl ?_;(refine run ?_;repeat intro b);refine dG _ rfl rfl rfl VY rfl (zY p a hw hf) ?_;(refine run ?_;repeat intro b);refine ez (decide (fS p≠0)) ?_ (fun h=>?_) (fun h=>?_)
 ·refine dS ?_;rw[ai];simp
 ·have e:na p=[]:=by unfold na;rw[aY (ar h)]
  rw[e];(refine run ?_;repeat intro b);exact eM (VS.iy [0] rfl (VS.id ⟨_,rfl,rfl,none,0,rfl,ah _,eG _ _⟩))
 have h0:fS p=0:=by simpa using h
 obtain⟨z1,z2,z3,z4,z5⟩:=kL h0;obtain⟨y1,y2,_⟩:=fL z2;have e:na p=lH p 17:=by unfold na;rw[aZ h0]
 obtain⟨w1,w2,w3,w4,w5⟩:=hw;obtain⟨f1,f2⟩:=hf;rw[e,h0];(refine run ?_;repeat intro b);have hn:=wL [] (az _) (fun x hx=>by cases hx) (p:=none) (c:=0) (eG F none);rw[Bc,JS]at hn;refine dG _ rfl rfl rfl P9 rfl hn ?_;(refine run ?_;repeat intro b);have hlf:=wL p.fZ w2 w3 (c:=a.ce) f1;have e2:ud p.fZ=jt p.fZ:=by unfold ud;rw[aZ (AZ h0)]
 rw[AZ h0,e2]at hlf;refine dG _ rfl rfl rfl P9 rfl hlf ?_;(refine run ?_;repeat intro b);refine dG _ rfl rfl rfl I6 rfl (oJ p.name w1 F) ?_;have ew:jS p.name=ej p.name:=by unfold jS;rw[aZ z1]
 rw[ew];(refine run ?_;repeat intro b);refine eU (fun q:Nat×Nat×Nat=>q.1≤p.fC.length∧q.1+1≤q.2.2) (fun q=>⟨[(5,.v (S [0])),(7,.v (S (kd p q.1))),(9,.row 2 0 (q.1+1) q.2.2),(10,.v (S (ej p.name))),(36,.v (.slice a.s p.fC.length a.cs)),(37,.v (i64 (p.fC.length:Nat))),(38,.v (i64 (q.1:Nat)))],F,[(2,⟨some q.2.1,((lH p (q.1+1)).map S).map EV.v,9,q.2.2 * 1⟩)],3⟩) (fun q=>p.fC.length - q.1) (0,b,1) ⟨az _,ah _⟩ (VS.mM (nx':=3) [(1,2)] [5,7,9,10,36,37,38] [(2,⟨some b,((lH p (0+1)).map S).map EV.v,9,1⟩)] (dU rfl trivial) rfl rfl rfl rfl rfl rfl rfl) ?_;rintro⟨k,gl,cap⟩ ⟨hk,hcap⟩;dsimp only at hk hcap ⊢;have hsl:=m8 p (k+1);by_cases hlt:k<p.fC.length
 ·have aat:k<16:=by omega
  have g:=gQ f2 (j:=k) (by rw[ab];exact hlt);rw[cD]at g;have hb:=ra p.name (15 - k) (by omega);have YW:=uX y1 k;have hm:=z5 _ (aj hlt);have hst:kd p (k+1)=if (ej p.name).getD (15 - k) 0=48 then kX (gg (kd p k)) p.fC[k] else kX p.fC[k] (gg (kd p k)):=by
   have:p.fC[k]=p.fC.getD k 0:=by rw[aE,ao hlt];rfl
   rw[this];rfl
  have hsn:=Bx p (k+1);have hmm:MM=2305843009213693951:=rfl;have hmk:=kZ (kd p k);have ei:IntKind.i64.wrap (15 - (k:Int))=((15 - k:Nat):Int):=by rw[wrap_i64 (by omega) (by omega)];omega
  have hpl:=jJ p.name;generalize p.fC[k]=m at g hm hst;generalize hW:ej p.name=W at hb hst hpl;(refine run ?_;repeat intro b);refine gm rfl (by omega) ?_;(refine run ?_;repeat intro b);refine dI rfl rfl rfl ⟨by omega,by omega,dO f2 (j:=k) (by rw[ab];exact hlt)⟩ ?_;refine fr (mu m) rfl rfl rfl rfl (by rw[ae,aA];exact g) ?_;(refine run ?_;repeat intro b);refine dG _ rfl rfl rfl C9 rfl (lr (kd p k) (by omega) F) ?_;(refine run ?_;repeat intro b);rw[ei];refine dI rfl rfl rfl ⟨by omega,by simp only[fX];omega⟩ ?_;generalize gg (kd p k)=mk at hmk hst;(refine run ?_;repeat intro b);obtain⟨A,hA⟩: ∃A:Nat,A=if W.getD (15 - k) 0=48 then mk else m:=⟨_,rfl⟩
  obtain⟨B,hB⟩: ∃B:Nat,B=if W.getD (15 - k) 0=48 then m else mk:=⟨_,rfl⟩
  refine k7 (β:=Unit) (fun _=>True) (fun _=>⟨[(5,.v (S [0])),(9,.row 2 0 (k+1) cap),(10,.v (S W)),(13,.v (u64 (A:Nat))),(14,.v (u64 (B:Nat))),(36,.v (.slice a.s p.fC.length a.cs)),(37,.v (i64 (p.fC.length:Nat))),(38,.v (i64 (k:Nat)))],F,[(2,⟨some gl,((lH p (k+1)).map S).map EV.v,9,cap * 1⟩)],3⟩) rfl (fun _ _=>?_) (fun u7 kn kr ke=>?_)
  ·have hs2:kd p (k+1)=kX A B:=by
    rw[hst,hA,hB];split<;>rfl
   have hA2:A<18446744073709551616:=by rw[hA];split<;>omega
   have hB2:B<18446744073709551616:=by rw[hB];split<;>omega
   rw[hs2]at hsn;have hs3:=hs2;clear hA hB hst hs2;(refine run ?_;repeat intro b);have hn:Plain Tryz.prog F 62 [S [0]] (u64 (jX:Nat)):=lr [0] (by decide) F;refine dG _ rfl rfl rfl C9 rfl hn ?_;have hnl:=sj A B;unfold kX at hsn hnl;have hcells: ∀x,x=(if A=jX∧B=jX then [0] else two 2 A B)→(((lH p (k+1)).map S).map EV.v).take ((k+1) * 1)++[EV.v (S x)]=((lH p (k+1+1)).map S).map EV.v:=fun x hx=>by
    rw[hsn,hx,an (by simp[hsl])]
   have BD:(if A=jX∧B=jX then [0] else two 2 A B)=kd p (k+1):=by
    rw[hs3];rfl
   generalize jX=z at *;(refine run ?_;repeat intro b);refine ez (decide (¬(A=z∧B=z))) ?_ (fun h=>?_) (fun h=>?_)
   ·refine dS ?_;rw[fu,ai];simp;split<;>omega
   ·rw[aY (ar h)]at hcells BD;(refine run ?_;repeat intro b);refine dG _ rfl rfl rfl Qe rfl (Iu 2 A B (by decide) hA2 hB2 F) ?_;(refine run ?_;repeat intro b);refine fv rfl rfl rfl rfl rfl rfl rfl rfl (fb rfl rfl) tl (fun h=>by cases h) hcap rfl (by simp[hsl]) (by show _ * 16≤_;omega) (fun h=>by cases h) (fun _ b2 c2 hc2=>?_);(refine run ?_;repeat intro b);rw[dQ (by omega),BD];rw[BD]at hcells;exact fE (k+1,b2,c2) 2 [(4,2)] [5,7,9,10,36,37,38] [(2,⟨some b2,((lH p (k+1+1)).map S).map EV.v,9,c2 * 1⟩)] ⟨hlt,hc2⟩ (by simp only;omega) (aM _ _)
     (ff ⟨_,rfl,rfl,rfl,rfl,.inl ⟨(hcells _ rfl).symm,fun e he=>fw _ e ((hcells _ rfl) ▸ he)⟩⟩ trivial) rfl rfl rfl rfl rfl rfl rfl
   rw[aZ (by simpa using h)]at hcells BD;(refine run ?_;repeat intro b);refine fv rfl rfl rfl rfl rfl rfl rfl rfl (fb rfl rfl) tl (fun h=>by cases h) hcap rfl (by simp[hsl]) (by show _ * 16≤_;omega) (fun h=>by cases h) (fun _ b2 c2 hc2=>?_);(refine run ?_;repeat intro b);rw[dQ (by omega),BD];rw[BD]at hcells;exact fE (k+1,b2,c2) 2 [(4,2)] [5,7,9,10,36,37,38] [(2,⟨some b2,((lH p (k+1+1)).map S).map EV.v,9,c2 * 1⟩)] ⟨hlt,hc2⟩ (by simp only;omega) (aM _ _)
    (ff ⟨_,rfl,rfl,rfl,rfl,.inl ⟨(hcells _ rfl).symm,fun e he=>fw _ e ((hcells _ rfl) ▸ he)⟩⟩ trivial) rfl rfl rfl rfl rfl rfl rfl
  rcases hb with h | h
  ·rw[aZ h]at hA hB;rw[ae,fX,h];(refine run ?_;repeat intro b);exact kn _ (VS.eH [5,9,10,13,14,36,37,38] rfl ⟨(),trivial,by rw[hA,hB]⟩)
  rw[aY (by rw[h];decide)]at hA hB;rw[ae,fX,h];(refine run ?_;repeat intro b);exact kn _ (VS.eH [5,9,10,13,14,36,37,38] rfl ⟨(),trivial,by rw[hA,hB]⟩)
 have hge:k=p.fC.length:=by omega
 have e16:p.fC.length+1=17:=by omega
 subst hge;rw[e16];(refine run ?_;repeat intro b);refine gu rfl (by omega) ?_;(refine run ?_;repeat intro b);refine eM ?_;refine VS.freeze 2 [2,3] rfl (eD _) rfl rfl fun F' hs1 hf1=>VS.id ⟨_,rfl,rfl,some ⟨gl,0,none⟩,cap,by rw[m8];rfl,by rw[m8];omega,hf1⟩
end Go.Proofs.YthbnddgjkonkdaaGreatDoor
