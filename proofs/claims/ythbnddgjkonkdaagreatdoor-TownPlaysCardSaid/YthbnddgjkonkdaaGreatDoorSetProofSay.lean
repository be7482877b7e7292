/- A part of the proof. -/
import Derived.Test.YthbnddgjkonkdaaGreatDoorSetTree
import Derived.Test.YthbnddgjkonkdaaGreatDoorSetFwL
set_option linter.unusedVariables false
set_option linter.unusedSimpArgs false
namespace Go.Proofs.YthbnddgjkonkdaaGreatDoor
open Go.TR
def tv (l:List Entry)(i:Nat):List Entry:=l.take i++⟨[],[]⟩::l.drop i
theorem L0 {l:List Entry}{i:Nat}(h:i≤l.length):(tv l i).length=l.length+1:=by
 unfold tv;rw[ag,aH,aw,aR];omega
@[reducible] def zE:List EV:=[.v (S []),.v (S [])]
@[reducible] def jZ (l:List Entry):List EV:=(l.flatMap Entry.row).map EV.v
theorem sj (l:List Entry):(jZ l).length=l.length * 2:=by rw[ab,dO eM]
theorem ux (a b:List Entry):jZ (a++b)=jZ a++jZ b:=by
 unfold jZ;rw[cr,aF]
theorem yR (l:List Entry)(i:Nat):jZ (l.take i)=(jZ l).take (i * 2):=by
 unfold jZ;rw[pt eM,cQ]
theorem rT (l:List Entry)(i:Nat)(h:i≤l.length):jZ (l.drop i)=(jZ l).drop (i * 2):=by
 have e1:jZ l=jZ (l.take i)++jZ (l.drop i):=by rw[←ux,List.take_append_drop]
 have e2:(jZ (l.take i)).length=i * 2:=by rw[sj,aw];omega
 conv=>rhs;rw[e1]
 exact (List.drop_left' e2).symm
theorem CW (rs:RL)(l:List Entry):ll rs (jZ l):=gC rs (iN l)
theorem Db (rs:RL):ll rs zE:=CW rs [⟨[],[]⟩]
theorem uN (l:List Entry)(i:Nat):jZ (tv l i)=jZ (l.take i)++(zE++jZ (l.drop i)):=by
 unfold tv;rw[ux];rfl
theorem R3 {α:Type}(A V z:List α){n k:Nat}(h:A.length=n):(A++V).take n++z++(A++V).drop (n+k)=A++(z++V.drop k):=by
 subst h;rw[List.take_left,List.drop_append,cd (by omega),c7,dh,bU]
attribute [local irreducible] vc dW gz fg fD gF gJ gB fJ Plain eD eX dK VS fv fA fG jt fh IntKind.wrap
set_option maxRecDepth 100000
set_option maxHeartbeats 4000000 in
theorem KM (l:List Entry)(i:Nat)(hi:i≤l.length)(hn:0<l.length)(tD:l.length≤1000){b bv c:Nat}{F:Hp}(hc:l.length≤c):
  eX Tryz.prog F [(1,⟨some bv,zE,122,2⟩),(0,⟨some b,jZ l,122,c * 2⟩)] 2 97 [.row 0 0 l.length c,.v (i64 (i:Nat)),.row 1 0 1 1] (fun e F' rs' nx'=>∃b' c',e= .row 9 0 (l.length+1) c'∧F'=F∧nx'=10∧l.length+1≤c'∧rs'=[(9,⟨some b',jZ (tv l i),122,c' * 2⟩)]):=by
 refine iT (N:=95) (rv:=[.tmp 6]) eW mixed Tryz.func97 rfl rfl rfl rfl rfl ?_;have hL:=sj l;(refine run ?_;repeat intro b);refine dL rfl rfl rfl ⟨by omega,by omega,by omega⟩ ?_;(refine run ?_;repeat intro b);by_cases hie:i=l.length
 ·subst hie;refine eE true (a8 (fun b=>some (EV.v (.bool b))) (by simp)) (fun _=>?_) (fun h=>by cases h);(refine run ?_;repeat intro b);have hcells:(jZ l).take (l.length * 2)++zE=jZ (tv l l.length):=by
   rw[uN,an (by omega),aD,cg];simp
  refine fy rfl rfl rfl rfl rfl rfl rfl rfl (ff rfl rfl) (Db _) (fun h=>by cases h) hc rfl (by rw[hL];exact ah _) (by show (_+1) * 32≤_;omega) (fun h=>by cases h) (fun _ b2 c2 hc2=>?_);refine fX (VS.mP (nx':=10) [(2,9)] [25] [(9,⟨some b2,jZ (tv l l.length),122,c2 * 2⟩)] (fi ⟨_,rfl,rfl,rfl,rfl,.inl ⟨hcells.symm,fun e he=>fz _ e (hcells ▸ he)⟩⟩ trivial) rfl rfl rfl rfl rfl rfl ?_);(refine run ?_;repeat intro b);exact⟨b2,c2,rfl,rfl,rfl,hc2,rfl⟩
 have hlt:i<l.length:=by omega
 refine eE false (a8 (fun b=>some (EV.v (.bool b))) (by simp;omega)) (fun h=>by cases h) (fun _=>?_);(refine run ?_;repeat intro b);have w1:IntKind.i64.wrap ((l.length:Int)+((1:Nat):Int))=((l.length+1:Nat):Int):=by rw[wrap_i64 (by omega) (by omega)];omega
 have w2:IntKind.i64.wrap (((l.length+1:Nat):Int) - (i:Int))=((l.length+1 - i:Nat):Int):=by rw[wrap_i64 (by omega) (by omega)];omega
 have w3:IntKind.i64.wrap ((i:Int)+((1:Nat):Int))=((i+1:Nat):Int):=by rw[wrap_i64 (by omega) (by omega)];omega
 by_cases hcap:c<l.length+1
 ·refine eE true (a8 (fun b=>some (EV.v (.bool b))) ?_) (fun _=>?_) (fun h=>by cases h)
  ·rw[w1];exact aW (by omega)
  (refine run ?_;repeat intro b);refine dL rfl rfl rfl ⟨by omega,by omega⟩ ?_;(refine run ?_;repeat intro b);rw[w1,w2,ae];refine PD eW rfl rfl rfl rfl rfl rfl rfl rfl (by omega) (by omega) (by show _ * 32≤_;omega) rfl (by rw[hL];show i * 2≤_;omega) (fun b2 c2 vs hc2 hvs=>?_);have e0:i+(l.length+1 - i)=l.length+1:=by omega
  rw[e0]at hc2 ⊢;have SS:vs.length=(l.length+1 - i) * 2:=hvs;have hA:((jZ l).take (i * 2)).length=i * 2:=by rw[aw];omega
  have hso:gU 0 i c2 2=i * 2:=by unfold gU;rw[aY (by omega),aP]
  have Oo:gU 0 (i+1) c2 2=(i+1) * 2:=by unfold gU;rw[aY (by omega),aP]
  have HZ:gU 0 i c 2=i * 2:=by unfold gU;rw[aY (by omega),aP]
  have k1:((jZ l).take (i * 2)++vs.map EV.v).take (gU 0 i c2 2)++zE++((jZ l).take (i * 2)++vs.map EV.v).drop (gU 0 i c2 2+1 * 2)=(jZ l).take (i * 2)++(zE++(vs.drop 2).map EV.v):=by
   rw[hso,R3 _ _ zE hA,cN]
  have k2:((jZ l).take (i * 2)++(zE++(vs.drop 2).map EV.v)).take (gU 0 (i+1) c2 2)++(jZ l).drop (i * 2)++((jZ l).take (i * 2)++(zE++(vs.drop 2).map EV.v)).drop (gU 0 (i+1) c2 2+(l.length - i) * 2)=jZ (tv l i):=by
   have h1:((jZ l).take (i * 2)++zE).length=(i+1) * 2:=by rw[ag,hA];show i * 2+2=_;omega
   have h2:(jZ l).take (i * 2)++(zE++(vs.drop 2).map EV.v)=((jZ l).take (i * 2)++zE)++(vs.drop 2).map EV.v:=(bU _ _ _).symm;have hV:((vs.drop 2).map EV.v).drop ((l.length - i) * 2)=[]:=cd (by rw[ab,aR,SS];omega);rw[Oo,h2,R3 _ _ _ h1,hV,bV,uN,yR,rT l i hi,bU]
  (refine run ?_;repeat intro b);refine dL rfl rfl rfl ⟨by omega,by omega,by omega⟩ ?_;(refine run ?_;repeat intro b);refine zH 1 zE eW rfl rfl rfl rfl rfl rfl rfl (by rw[ae];simp[Nat.min_def];omega) rfl (Db _) (ah _) (by rw[ae];show gU 0 i c2 2+1 * 2≤_;rw[hso,ag,hA,ab,SS];omega) (rs':=[(2,(⟨some b2,(jZ l).take (i * 2)++(zE++(vs.drop 2).map EV.v),122,c2 * 2⟩:kg)),(1,⟨some bv,zE,122,2⟩),(0,⟨some b,jZ l,122,c * 2⟩)]) (a8 (fun cs=>some [(2,(⟨some b2,cs,122,c2 * 2⟩:kg)),(1,⟨some bv,zE,122,2⟩),(0,⟨some b,jZ l,122,c * 2⟩)]) k1) ?_;(refine run ?_;repeat intro b);refine jM 8 (by kernel_rfl) rfl rfl ?_;(refine run ?_;repeat intro b);rw[w3];refine dL rfl rfl rfl ⟨by omega,by omega,by omega⟩ ?_;(refine run ?_;repeat intro b);refine dL rfl rfl rfl ⟨by omega,by omega,by omega⟩ ?_;(refine run ?_;repeat intro b);have hB:((jZ l).take (gU 0 i c 2+(l.length - i) * 2)).drop (gU 0 i c 2)=(jZ l).drop (i * 2):=by
   rw[HZ,an (by omega)]
  refine zH (l.length - i) ((jZ l).drop (i * 2)) eW rfl rfl rfl rfl rfl rfl rfl (by rw[ae,ae];simp[Nat.min_def]) (by rw[ae];exact hB) (by rw[←rT l i hi];exact CW _ _) (by rw[ae];show gU 0 i c 2+(l.length - i) * 2≤_;rw[HZ];omega) (by rw[ae];show gU 0 (i+1) c2 2+(l.length - i) * 2≤_;rw[Oo,ag,hA,ag,ab,aR,SS];show _≤i * 2+(2+_);omega) (rs':=[(2,(⟨some b2,jZ (tv l i),122,c2 * 2⟩:kg)),(1,⟨some bv,zE,122,2⟩),(0,⟨some b,jZ l,122,c * 2⟩)]) (a8 (fun cs=>some [(2,(⟨some b2,cs,122,c2 * 2⟩:kg)),(1,⟨some bv,zE,122,2⟩),(0,⟨some b,jZ l,122,c * 2⟩)]) k2) ?_;(refine l5 ?_;repeat intro b);refine mA (VS.mP (nx':=10) [(2,9)] [9] [(9,⟨some b2,jZ (tv l i),122,c2 * 2⟩)] (fi ⟨_,rfl,rfl,rfl,rfl,.inl ⟨rfl,fun e he=>fz _ e he⟩⟩ trivial) rfl rfl rfl rfl rfl rfl ?_);(refine run ?_;repeat intro b);exact⟨b2,c2,rfl,rfl,rfl,hc2,rfl⟩
 refine eE false (a8 (fun b=>some (EV.v (.bool b))) ?_) (fun h=>by cases h) (fun _=>?_)
 ·rw[w1];exact aX (by omega)
 (refine run ?_;repeat intro b);rw[w1];refine fX (VS.more 0 2 (fun vs=>[(1,⟨some bv,zE,122,2⟩),(0,⟨some b,jZ l++vs.map .v,122,c * 2⟩)]) rfl (fun _=>rfl) (by omega) fun vs hvs=>?_);refine dL rfl rfl rfl ⟨by omega,by omega⟩ ?_;(refine run ?_;repeat intro b);rw[w3];refine dL rfl rfl rfl ⟨by omega,by omega,by omega⟩ ?_;(refine run ?_;repeat intro b);rw[ae,ae];refine RZ eW rfl rfl Tryz.func153 (by kernel_rfl) (by kernel_rfl) (by kernel_rfl) (t4:=4) (t:=42) (by kernel_rfl) rfl rfl rfl rfl rfl (by omega) rfl ?_;(refine run ?_;repeat intro b);refine jM 8 (by kernel_rfl) rfl rfl ?_;(refine run ?_;repeat intro b);rw[w3];refine dL rfl rfl rfl ⟨by omega,by omega,by omega⟩ ?_;(refine run ?_;repeat intro b);refine dL rfl rfl rfl ⟨by omega,by omega,by omega⟩ ?_;(refine run ?_;repeat intro b);have Oo:gU 0 (i+1) c 2=(i+1) * 2:=by unfold gU;rw[aY (by omega),aP]
 have HZ:gU 0 i c 2=i * 2:=by unfold gU;rw[aY (by omega),aP]
 have hA:((jZ l).take ((i+1) * 2)).length=(i+1) * 2:=by rw[aw];omega
 have hB:((jZ l++vs.map EV.v).take (gU 0 i c 2+(l.length - i) * 2)).drop (gU 0 i c 2)=(jZ l).drop (i * 2):=by
  rw[HZ,List.take_left' (by omega)]
 have k1:(jZ l++vs.map EV.v).take (gU 0 (i+1) c 2)++(jZ l).drop (i * 2)++(jZ l++vs.map EV.v).drop (gU 0 (i+1) c 2+(l.length - i) * 2)=(jZ l).take ((i+1) * 2)++(jZ l).drop (i * 2):=by
  have hV:(jZ l++vs.map EV.v).drop ((i+1) * 2+(l.length - i) * 2)=[]:=cd (by rw[ag,hL,ab,hvs];omega);rw[Oo,de (by omega),hV,bV]
 have k2:((jZ l).take ((i+1) * 2)++(jZ l).drop (i * 2)).take (gU 0 i c 2)++zE++((jZ l).take ((i+1) * 2)++(jZ l).drop (i * 2)).drop (gU 0 i c 2+1 * 2)=jZ (tv l i):=by
  have e1:i * 2+1 * 2=(i+1) * 2:=by omega
  rw[HZ,de (by omega),List.take_take,Nat.min_eq_left (by omega),e1,List.drop_left' hA,uN,yR,rT l i hi,bU]
 refine zH (l.length - i) ((jZ l).drop (i * 2)) eW rfl rfl rfl rfl rfl rfl rfl (by rw[ae,ae];simp[Nat.min_def];omega) (by rw[ae];exact hB) (by rw[←rT l i hi];exact CW _ _) (by rw[ae];show gU 0 i c 2+(l.length - i) * 2≤_;rw[HZ,ag];omega) (by rw[ae];show gU 0 (i+1) c 2+(l.length - i) * 2≤_;rw[Oo,ag,hL,ab,hvs];omega) (rs':=[(1,(⟨some bv,zE,122,2⟩:kg)),(0,⟨some b,(jZ l).take ((i+1) * 2)++(jZ l).drop (i * 2),122,c * 2⟩)]) (a8 (fun cs=>some [(1,(⟨some bv,zE,122,2⟩:kg)),(0,⟨some b,cs,122,c * 2⟩)]) k1) ?_;(refine run ?_;repeat intro b);refine dL rfl rfl rfl ⟨by omega,by omega,by omega⟩ ?_;(refine run ?_;repeat intro b);refine zH 1 zE eW rfl rfl rfl rfl rfl rfl rfl (by rw[ae];simp[Nat.min_def];omega) rfl (Db _) (ah _) (by rw[ae];show gU 0 i c 2+1 * 2≤_;rw[HZ,ag,hA,aR];omega) (rs':=[(1,(⟨some bv,zE,122,2⟩:kg)),(0,⟨some b,jZ (tv l i),122,c * 2⟩)]) (a8 (fun cs=>some [(1,(⟨some bv,zE,122,2⟩:kg)),(0,⟨some b,cs,122,c * 2⟩)]) k2) ?_;(refine l5 ?_;repeat intro b);refine mA (VS.mP (nx':=10) [(0,9)] [0] [(9,⟨some b,jZ (tv l i),122,c * 2⟩)] (fi ⟨_,rfl,rfl,rfl,rfl,.inl ⟨rfl,fun e he=>fz _ e he⟩⟩ trivial) rfl rfl rfl rfl rfl rfl ?_);(refine run ?_;repeat intro b);exact⟨b,c,rfl,rfl,rfl,by omega,rfl⟩
end Go.Proofs.YthbnddgjkonkdaaGreatDoor
namespace Go.TR
theorem iy.Uc {P:Program}{F:Hp}{f:FuncId}{args:List Value}{Q Q':Value→Hp→Prop}(h:iy P F f args Q)(hq: ∀x F',F.sub F'→Q x F'→Q' x F'):iy P F f args Q':=fun w hw=>by
 refine (h w hw).mono fun e w' hh=>?_;obtain⟨x,F',new,h1,h2,h3,h4,h5,h6,h7,h8,h9⟩:=hh;exact⟨x,F',new,h1,h2,h3,h4,h5,h6,h7,h8,hq x F' h2 h9⟩
end Go.TR
namespace Go.Proofs.YthbnddgjkonkdaaGreatDoor
open Go.TR
def mW (l:List Entry)(n v:List UInt8):Int:=if jB l n≠0 then jB l n else if eR n v≠0 then eR n v else if lJ l n=false∧l.length=24 then 7 else 0
def xc (l:List Entry)(n v:List UInt8):List Entry:=if mW l n v=0 then kx l n v else []
theorem yc {l:List Entry}{n v:List UInt8}(h:mW l n v≠0):xc l n v=[]:=by unfold xc;rw[aY h]
theorem AP {α:Type}(A B z y:List α){n k:Nat}(h:A.length=n)(hk:y.length=k):(A++(y++B)).take n++z++(A++(y++B)).drop (n+k)=A++(z++B):=by
 rw[R3 _ _ _ h,List.drop_left' hk]
theorem Pf {l:List Entry}{n:List UInt8}(v:List UInt8){i:Nat}(hi:i≤l.length)(hlb:lL l n=i)(hh:lJ l n=false):(jZ (tv l i)).take (i * 2)++[.v (S n),.v (S v)]++(jZ (tv l i)).drop (i * 2+2)=jZ (kx l n v):=by
 have hA:(jZ (l.take i)).length=i * 2:=by rw[sj,aw];omega
 rw[uN,AP (k:=2) (jZ (l.take i)) (jZ (l.drop i)) _ zE hA rfl];unfold kx nR;rw[hlb,hh,ux];rfl
theorem OK {l:List Entry}(hb:oo l){n:List UInt8}(v:List UInt8){i:Nat}(hi:i<l.length)(hlb:lL l n=i)(hh:lJ l n=true):(jZ l).take (i * 2)++[.v (S n),.v (S v)]++(jZ l).drop (i * 2+2)=jZ (kx l n v):=by
 have e1:i * 2+2=(i+1) * 2:=by omega
 unfold kx nR;rw[hlb,hh,aZ rfl,ux,yR,e1,←rT l (i+1) hi,bU];rfl
attribute [local irreducible] ahead kP eC jQ eP dY gj lL lJ jB eR
attribute [local irreducible] vc dW gz fg fD gF gJ gB fJ Plain eD eX dK VS fv fA fG jt fh IntKind.wrap
set_option maxRecDepth 100000
theorem mg (cs:List Value)(n:Nat){p:Option Addr}{c:Nat}{F:Hp}(hl:cs.length=n * 2)(hf:e9 F p cs)(h1: ∀x∈cs,Go.TR.one (.v x)=true)(hb:n * 32≤140737488355328):eD Tryz.prog F 43 [.slice p n c] (fun x _ new=>mC 122 2 cs n x new):=by
 refine fW (N:=8) (rv:=[.tmp 2]) eW mixed Tryz.func43 rfl rfl rfl rfl rfl ?_;(refine run ?_;repeat intro b);refine qg (b:=p.isNone) eW rfl rfl rfl ?_;cases p with
 | none=>
  have hn:n=0:=by
   rcases dk n with h | h
   ·exact h
   have:=dR hf (j:=0) (by rw[hl];omega);cases this
  subst hn;(refine run ?_;repeat intro b);refine eU (VS.id ⟨_,rfl,.inl ⟨rfl,rfl,none,rfl⟩⟩)
 | some a=>
  (refine run ?_;repeat intro b);refine fy rfl rfl rfl rfl rfl rfl rfl rfl (iX hl hf) (gC _ h1) (fun h=>by cases h) (ah 0) rfl (az _) (by show (0+n) * 32≤_;omega) (fun hn=>?_) (fun hn b2 c2 hc2=>?_)
  ·subst hn;(refine run ?_;repeat intro b);refine eU ?_;refine VS.freeze 0 [2] rfl (cs:=[]) rfl rfl rfl fun F' hs1 hf1=>VS.id ⟨_,rfl,.inl ⟨rfl,rfl,_,rfl⟩⟩
  (refine run ?_;repeat intro b);simp only[aP]at hc2 ⊢;refine mH (qQ.mP (nx':=1) [(1,0)] [2] [(0,⟨some b2,cs.map EV.v,122,c2 * 2⟩)] (fi ⟨_,rfl,rfl,rfl,rfl,.inl ⟨rfl,fun e he=>fz _ e he⟩⟩ trivial) rfl rfl rfl rfl rfl rfl ⟨_,rfl,.inr ⟨hn,b2,c2,hc2,rfl,rfl⟩⟩)
set_option maxHeartbeats 4000000 in
theorem Ho {p:Option Addr}{bv:Nat}{F:Hp}:
  eX Tryz.prog F [(0,⟨some bv,zE,122,2⟩)] 1 97 [.v (.slice p 0 0),.v (i64 ((0:Nat):Nat)),.row 0 0 1 1] (fun e F' rs' nx'=>∃b' c',e= .row 9 0 1 c'∧F'=F∧nx'=10∧1≤c'∧rs'=[(9,⟨some b',zE,122,c' * 2⟩)]):=by
 refine iT (N:=95) (rv:=[.tmp 6]) eW mixed Tryz.func97 rfl rfl rfl rfl rfl ?_;(refine run ?_;repeat intro b);refine jA [] rfl rfl rfl rfl rfl rfl rfl (eJ _ _) (ff rfl rfl) (Db _) (by decide) (fun h=>by cases h) (fun _ b2 c2 hc2=>?_);refine fX (VS.mP (nx':=10) [(1,9)] [25] [(9,⟨some b2,zE,122,c2 * 2⟩)] (fi ⟨_,rfl,rfl,rfl,rfl,.inl ⟨rfl,fun e he=>fz [_,_] e he⟩⟩ trivial) rfl rfl rfl rfl rfl rfl ?_);(refine run ?_;repeat intro b);exact⟨b2,c2,rfl,rfl,rfl,by omega,rfl⟩
set_option maxHeartbeats 4000000 in
theorem Gg (l:List Entry)(n v:List UInt8)(hl:l.length≤4611686018427387904)(hw: ∀x∈l,x.wf)(hn:n.length≤4611686018427387904){p:Option Addr}{c:Nat}{F:Hp}(hf:e9 F p (l.flatMap Entry.row)):iy Tryz.prog F 45 [.slice p l.length c,S n,S v] (fun x F'=>∃p' c',x=pair (.slice p' (xc l n v).length c') (i64 (mW l n v))∧e9 F' p' ((xc l n v).flatMap Entry.row)):=by
 refine fW (N:=52) (rv:=[.tmp 6,.tmp 7]) eW mixed Tryz.func45 rfl rfl rfl rfl rfl ?_;(refine run ?_;repeat intro b);refine dJ _ rfl rfl rfl TH rfl (we l n hl hw hn hf) ?_;by_cases h0:jB l n=0
 ·obtain⟨h1,h2⟩:=qu h0;obtain⟨tD,hgood,_⟩:=fP h1;have hb:=qq h1;have e1:pD l n=lL l n:=by unfold pD;rw[aZ h0]
  have e2:k6 l n=lJ l n:=by unfold k6;rw[h0];rfl
  have hlb:=Ie l n;rw[h0,e1,e2];(refine run ?_;repeat intro b);refine dJ _ rfl rfl rfl UT rfl (uc n v hn F) ?_;(refine run ?_;repeat intro b);refine eE (decide (eR n v≠0)) ?_ (fun h=>?_) (fun h=>?_)
  ·refine dV ?_;rw[ai];simp
  ·have h:=ar h;have e:mW l n v=eR n v:=by unfold mW;rw[aY (by simpa using h0),aZ h]
   rw[yc (by rw[e];exact h),e];(refine run ?_;repeat intro b);exact eU (VS.id ⟨_,rfl,rfl,none,0,rfl,eJ _ _⟩)
  have ha:eR n v=0:=by simpa using h
  have eS:mW l n v=if lJ l n=false∧l.length=24 then 7 else 0:=by unfold mW;rw[aY (by simpa using h0),aY (by simpa using ha)]
  have hfl:=dO eM l;cases hh:lJ l n with
  | true=>
   have e:mW l n v=0:=by rw[eS,hh];rfl
   have eO:xc l n v=kx l n v:=by unfold xc;rw[aZ e]
   obtain⟨hlt,_⟩:=(qt hb n).1 hh;have hput:=fun hi h=>OK hb v (i:=lL l n) hi h hh;have hsl:(kx l n v).length=l.length:=by rw[xm hb,hh];rfl
   rw[e,eO,hsl];generalize lL l n=i at *;have hput:=hput hlt rfl;(refine run ?_;repeat intro b);refine nC (R:=fun _ cs=>cs=l.flatMap Entry.row) (fun x F' new h=>⟨_,h,rfl⟩) rfl rfl rfl D6 rfl (mg (l.flatMap Entry.row) l.length hfl hf (iN _) (by omega)) (fun hk0 _ _ _ _ _=>by omega) (fun hk1 F1 b1 c1 cs hF1 hc1 hcs=>?_);subst hcs;(refine run ?_;repeat intro b);refine dL rfl rfl rfl ⟨by omega,by omega,_,_,rfl,rfl⟩ ?_;refine iS (jZ (kx l n v)) rfl rfl rfl rfl rfl rfl (by rw[ae];show 0+i * 2+2≤_;rw[sj l];omega) (by rw[ae,aP];exact hput) rfl ?_;(refine run ?_;repeat intro b);refine eU ?_;refine VS.freeze 0 [6,7] rfl (eH _) rfl rfl fun F' hs1 hf1=>VS.id ⟨_,rfl,rfl,_,_,rfl,hf1⟩
  | false=>
   have hins:=fun hi h=>Pf (l:=l) (n:=n) v (i:=lL l n) hi h hh;have hsl:(kx l n v).length=l.length+1:=by rw[xm hb,hh];rfl
   have hins:=hins hlb rfl;generalize lL l n=i at *;(refine run ?_;repeat intro b);refine eE (decide (l.length=24)) ?_ (fun h=>?_) (fun h=>?_)
   ·refine dV ?_;rw[ai,beq_iff_eq,av];omega
   ·have e:mW l n v=7:=by rw[eS,hh,aZ ⟨rfl,ar h⟩]
    rw[yc (by rw[e];decide),e];(refine run ?_;repeat intro b);exact eU (VS.id ⟨_,rfl,rfl,none,0,rfl,eJ _ _⟩)
   have h:=au h;have e:mW l n v=0:=by rw[eS,aY (fun h2=>h h2.2)]
   have eO:xc l n v=kx l n v:=by unfold xc;rw[aZ e]
   rw[e,eO,hsl];by_cases hl0:l.length=0
   ·obtain rfl:=aq hl0;obtain rfl:i=0:=by simpa using hlb
    (refine run ?_;repeat intro b);refine nC (R:=fun _ cs=>cs=([]:List Entry).flatMap Entry.row) (fun x F' new h=>⟨_,h,rfl⟩) rfl rfl rfl D6 rfl (mg (([]:List Entry).flatMap Entry.row) 0 hfl hf (iN _) (by omega)) (fun hk0 F1 p1 cs hF1 hcs=>?_) (fun hk1 _ _ _ _ _ _ _=>absurd hk1 (by decide));(refine run ?_;repeat intro b);refine nQ rfl rfl rfl Wg rfl Ho ?_;rintro _ _ _ _ _ _ ⟨b2,c2,rfl,rfl,rfl,hc2,rfl⟩;(refine run ?_;repeat intro b);refine dL rfl rfl rfl ⟨by omega,by omega,_,_,rfl,rfl⟩ ?_;refine iS (jZ (kx [] n v)) rfl rfl rfl rfl rfl rfl (by rw[ae];show 0+0 * 2+2≤_;rw[show zE.length=2 from rfl];omega) (by rw[ae,aP];exact hins) rfl ?_;(refine run ?_;repeat intro b);refine eU ?_;refine VS.freeze 9 [6,7] rfl (eH _) rfl rfl fun F' hs1 hf1=>VS.id ⟨_,rfl,rfl,_,_,rfl,hf1⟩
   (refine run ?_;repeat intro b);refine nC (R:=fun _ cs=>cs=l.flatMap Entry.row) (fun x F' new h=>⟨_,h,rfl⟩) rfl rfl rfl D6 rfl (mg (l.flatMap Entry.row) l.length hfl hf (iN _) (by omega)) (fun hk0 _ _ _ _ _=>by omega) (fun hk1 F1 b1 c1 cs hF1 hc1 hcs=>?_);subst hcs;(refine run ?_;repeat intro b);refine nQ rfl rfl rfl Wg rfl (KM l i hlb hk1 (by omega) hc1) ?_;rintro _ _ _ _ _ _ ⟨b2,c2,rfl,rfl,rfl,hc2,rfl⟩;(refine run ?_;repeat intro b);refine dL rfl rfl rfl ⟨by omega,by omega,_,_,rfl,rfl⟩ ?_;refine iS (jZ (kx l n v)) rfl rfl rfl rfl rfl rfl (by rw[ae];show 0+i * 2+2≤_;rw[sj,L0 hlb];omega) (by rw[ae,aP];exact hins) rfl ?_;(refine run ?_;repeat intro b);refine eU ?_;refine VS.freeze 9 [6,7] rfl (eH _) rfl rfl fun F' hs1 hf1=>VS.id ⟨_,rfl,rfl,_,_,rfl,hf1⟩
 have e:mW l n v=jB l n:=by unfold mW;rw[aZ h0]
 rw[yc (by rw[e];exact h0),e];have e2:pD l n=0:=by unfold pD;rw[aY h0]
 have e3:k6 l n=false:=by unfold k6;rw[aX h0];rfl
 rw[e2,e3];(refine run ?_;repeat intro b);refine eE false (a8 (fun b=>some (EV.v (.bool b))) (by simpa using h0)) (fun h=>by cases h) (fun _=>?_);(refine run ?_;repeat intro b);refine eE true (a8 (fun b=>some (EV.v (.bool b))) (by simpa using h0)) (fun _=>?_) (fun h=>by cases h);(refine run ?_;repeat intro b);exact eU (VS.id ⟨_,rfl,rfl,none,0,rfl,eJ _ _⟩)
end Go.Proofs.YthbnddgjkonkdaaGreatDoor
namespace Go.TR
section
variable {P:Program} {tb:Tb} {N:Nat} {KK:Exit→St→Prop} {st:St}
theorem VS.shut {env:Env}(env':Option Addr→Env){F:Hp}{rs rs':RL}{nx:Nat}{G:St→Prop}(id:Nat){gq:Option Nat}{cells:List EV}{ty:TypeId}{cap:Nat}{cs:List Value}(slots:List Nat)(hr:fU rs id=some ⟨gq,cells,ty,cap⟩)(hcs:iZ rs cells=some cs)(h1: ∀b,iv (vM b id rs)=some rs')(h2:iv (Go.TR.iB [id] rs)=some rs')
  (h3: ∀b,Go.TR.eL (At b id env) slots=some (env' (some ⟨b,0,none⟩))) (h4:Go.TR.eL (HF id env) slots=some (env' none)) (k: ∀F' p',F.sub F'→e9 F' p' cs→G ⟨env' p',F',rs',nx⟩) (hty:Nat.beq ty 0=false:=by rfl):VS N [] ⟨env,F,rs,nx⟩ G:=by
 cases gq with
 | none=>
  refine VS.Fi hr (fun e=>by rw[e]at hty;cases hty) fun⟨hc,_⟩=>VS.M1 id slots hr h4 (VS.iB [id] h2 (VS.id (k F none (Hp.sub.refl F) ?_)));subst hc;cases hcs;exact fun j u h=>by simp at h
 | some b=>exact VS.freeze id slots hr hcs (h1 b) (h3 b) fun F' hs hf=>VS.id (k F' _ hs hf)
end
end Go.TR
namespace Go.Proofs.YthbnddgjkonkdaaGreatDoor
open Go.TR
attribute [local irreducible] ahead kP eC jQ eP dY gj jx two
attribute [local irreducible] vc dW gz fg fD gF gJ gB fJ Plain eD eX dK VS fv fA fG jt fh IntKind.wrap
set_option maxRecDepth 100000
theorem Bb {l:List Entry}(h: ¬l.length=0):ju l=1::(l.take l.length).flatMap zV:=by
 unfold ju;rw[aY h,aD]
theorem AF {l:List Entry}{k:Nat}(h:k<l.length):(l.take (k+1)).flatMap zV=(l.take k).flatMap zV++zV l[k]:=by
 rw[al h,cr];simp
set_option maxHeartbeats 1000000 in
theorem rG (l:List Entry)(hl:l.length≤24)(hw: ∀x∈l,x.wf){p:Option Addr}{c:Nat}{F:Hp}(hf:e9 F p (l.flatMap Entry.row)):Plain Tryz.prog F 215 [.slice p l.length c] (S (ju l)):=by
 refine dQ (N:=35) (rv:=[.tmp 2]) eW mixed Tryz.func215 rfl rfl rfl rfl rfl ?_;(refine run ?_;repeat intro b);refine eE (decide (l.length=0)) ?_ (fun h=>?_) (fun h=>?_)
 ·refine dV ?_;rw[ai];simp
 ·have e:ju l=[0]:=by unfold ju;rw[aZ (ar h)]
  rw[e];(refine run ?_;repeat intro b);refine qx [0] rfl rfl rfl rfl (ah 1) rfl ?_;(refine run ?_;repeat intro b);rfl
 rw[Bb (au h)];(refine run ?_;repeat intro b);refine qx [1] rfl rfl rfl rfl (ah 1) rfl ?_;(refine run ?_;repeat intro b);refine eY (fun q:Hp×Nat=>F.sub q.1∧q.2≤l.length) (fun q=>⟨[(3,.v (S (1::(l.take q.2).flatMap zV))),(15,.v (.slice p l.length c)),(16,.v (i64 (l.length:Nat))),(17,.v (i64 (q.2:Nat)))],q.1,[],1⟩) (fun q=>l.length - q.2) (F,0) ⟨Hp.sub.refl _,az _⟩ (VS.iB [0] rfl (VS.eL [3,15,16,17] rfl rfl)) ?_;rintro⟨F0,k⟩ ⟨hF,hk⟩;dsimp only at hF hk ⊢;have hf0:=eu hF hf;by_cases hlt:k<l.length
 ·obtain⟨o1,o2⟩:=fa eM (by decide) hf0 k hlt;have hsn:=AF hlt;have hlen:=pE (l.take k);rw[aw]at hlen;generalize l[k]=x at o2 hsn;have hx:=lD [x.name,x.value];have ex:zV x=jx [x.name,x.value]:=rfl;(refine run ?_;repeat intro b);refine gw rfl (by omega) ?_;(refine run ?_;repeat intro b);refine dL rfl rfl rfl ⟨by omega,by omega,dR hf0 (j:=k * 2) (by rw[dO eM];omega)⟩ ?_;refine fB x.row rfl rfl rfl rfl rfl (by rw[ae];exact o1) (by rw[ae];exact o2) ?_;(refine run ?_;repeat intro b);refine fX (VS.freeze 2 [3,15,16,17,26] rfl rfl rfl rfl fun F1 hs1 hf1=>VS.id ?_);refine dJ _ rfl rfl rfl Q1 rfl (Mo [x.name,x.value] hf1) ?_;rw[CE,←ex];(refine run ?_;repeat intro b);refine dL rfl rfl rfl (by simp only[ga,aH];rw[ex];unfold jj;omega) ?_;(refine run ?_;repeat intro b);rw[dT (by omega)];exact iK (F1,k+1) [1] [3,15,16,17] ⟨hF.trans hs1,hlt⟩ (by simp only;omega) rfl (by simp only[ga];rw[hsn];rfl) rfl rfl trivial rfl
 have hge:k=l.length:=by omega
 subst hge;(refine run ?_;repeat intro b);refine gy rfl (by omega) ?_;(refine run ?_;repeat intro b);rfl
set_option maxHeartbeats 1000000 in
theorem wB (l:List Entry)(hl:l.length≤24)(hw: ∀x∈l,x.wf){p:Option Addr}{c:Nat}{F:Hp}(hf:e9 F p (l.flatMap Entry.row)):Plain Tryz.prog F 188 [.slice p l.length c] (S (ju l)):=by
 refine dQ (N:=31) (rv:=[.tmp 2]) eW mixed Tryz.func188 rfl rfl rfl rfl rfl ?_;(refine run ?_;repeat intro b);refine eE (decide (l.length=0)) ?_ (fun h=>?_) (fun h=>?_)
 ·refine dV ?_;rw[ai];simp
 ·have e:ju l=[0]:=by unfold ju;rw[aZ (ar h)]
  rw[e];(refine run ?_;repeat intro b);rfl
 rw[Bb (au h)];(refine run ?_;repeat intro b);refine eY (fun q:Hp×Nat=>F.sub q.1∧q.2≤l.length) (fun q=>⟨[(3,.v (S (1::(l.take q.2).flatMap zV))),(11,.v (.slice p l.length c)),(12,.v (i64 (l.length:Nat))),(13,.v (i64 (q.2:Nat)))],q.1,[],0⟩) (fun q=>l.length - q.2) (F,0) ⟨Hp.sub.refl _,az _⟩ (VS.eL [3,11,12,13] rfl rfl) ?_;rintro⟨F0,k⟩ ⟨hF,hk⟩;dsimp only at hF hk ⊢;have hf0:=eu hF hf;by_cases hlt:k<l.length
 ·obtain⟨o1,o2⟩:=fa eM (by decide) hf0 k hlt;have hsn:=AF hlt;have hlen:=pE (l.take k);rw[aw]at hlen;generalize l[k]=x at o2 hsn;have hx:=lD [x.name,x.value];have ex:zV x=jx [x.name,x.value]:=rfl;(refine run ?_;repeat intro b);refine gw rfl (by omega) ?_;(refine run ?_;repeat intro b);refine dL rfl rfl rfl ⟨by omega,by omega,dR hf0 (j:=k * 2) (by rw[dO eM];omega)⟩ ?_;refine fB x.row rfl rfl rfl rfl rfl (by rw[ae];exact o1) (by rw[ae];exact o2) ?_;(refine run ?_;repeat intro b);refine fX (VS.freeze 1 [3,11,12,13,22] rfl rfl rfl rfl fun F1 hs1 hf1=>VS.id ?_);refine dJ _ rfl rfl rfl Q2 rfl (DD [x.name,x.value] (by simp) hf1) ?_;rw[←ex];(refine run ?_;repeat intro b);refine dL rfl rfl rfl (by simp only[ga,aH];rw[ex];unfold jj;omega) ?_;(refine run ?_;repeat intro b);rw[dT (by omega)];exact iK (F1,k+1) [0] [3,11,12,13] ⟨hF.trans hs1,hlt⟩ (by simp only;omega) rfl (by simp only[ga];rw[hsn];rfl) rfl rfl trivial rfl
 have hge:k=l.length:=by omega
 subst hge;(refine run ?_;repeat intro b);refine gy rfl (by omega) ?_;(refine run ?_;repeat intro b);rfl
theorem rO (x y:Nat)(hx:x<18446744073709551616)(hy:y<18446744073709551616)(F:Hp):Plain Tryz.prog F 190 [u64 (x:Nat),u64 (y:Nat)] (S (ld x y)):=by
 refine dQ (N:=18) (rv:=[.tmp 4]) eW mixed Tryz.func190 rfl rfl rfl rfl rfl ?_;(refine run ?_;repeat intro b);have hm:Plain Tryz.prog F 67 [S [0]] (u64 (ka:Nat)):=jX [0] (by decide) F;refine dJ _ rfl rfl rfl vW rfl hm ?_;unfold ld;generalize ka=z;(refine run ?_;repeat intro b);refine eE (decide (x=z∧y=z)) ?_ (fun h=>?_) (fun h=>?_)
 ·refine dV ?_;rw[fK,ai];simp;omega
 ·rw[aZ (ar h)];(refine run ?_;repeat intro b);rfl
 rw[aY (au h)];(refine run ?_;repeat intro b);refine dJ _ rfl rfl rfl Uo rfl (Kn 2 x y (by decide) hx hy F) ?_;(refine run ?_;repeat intro b);rfl
def sK (l:List Entry):List UInt8:=(l.getD 0 ⟨[],[]⟩).name
def sU (l:List Entry):List UInt8:=(l.getD (l.length - 1) ⟨[],[]⟩).name
def qX (l:List Entry):Int:=if dY l≠0 then dY l else if 0<l.length∧eC (sK l)≠eC (sU l) then 3 else 0
def u5 (l:List Entry):List UInt8:=if qX l=0 then ju l else []
set_option maxHeartbeats 1000000 in
theorem wk (l:List Entry)(hl:l.length≤4611686018427387904)(hw: ∀x∈l,x.wf){p:Option Addr}{c:Nat}{F:Hp}(hf:e9 F p (l.flatMap Entry.row)):Plain Tryz.prog F 271 [.slice p l.length c] (pair (S (u5 l)) (i64 (qX l))):=by
 refine dQ (N:=31) (rv:=[.tmp 2,.tmp 3]) eW mixed Tryz.func271 rfl rfl rfl rfl rfl ?_;(refine run ?_;repeat intro b);refine dJ _ rfl rfl rfl NK rfl (mK l hl hw hf) ?_;have hO: ∀e,qX l=e→e≠0→u5 l=[]:=fun e h h0=>by unfold u5;rw[h,aY h0]
 (refine run ?_;repeat intro b);refine eE (decide (dY l≠0)) ?_ (fun h=>?_) (fun h=>?_)
 ·refine dV ?_;rw[ai];simp
 ·have e:qX l=dY l:=by unfold qX;rw[aZ (ar h)]
  rw[hO _ e (ar h),e];(refine run ?_;repeat intro b);rfl
 have e:qX l=if 0<l.length∧eC (sK l)≠eC (sU l) then 3 else 0:=by unfold qX;rw[aY (au h)]
 have h0:dY l=0:=by simpa using h
 obtain⟨tD,hgood,_⟩:=fP h0;(refine run ?_;repeat intro b);refine fO (by kernel_rfl) ?_;(refine run ?_;repeat intro b);have hk0:decide ((0:Int)<(l.length:Int))=true→0<l.length:=fun h=>by have:=ar h;omega
 have ew:0<l.length→IntKind.i64.wrap ((l.length:Int) - 1)=((l.length - 1:Nat):Int):=fun h=>by rw[wrap_i64 (by omega) (by omega)];omega
 have g0:0<l.length→(iw p (0 * 2)).isSome=true∧gi F (iw (iw p (0 * 2)) 0)=some (S (sK l)):=fun h=>by
  obtain⟨q1,q2⟩:=fa eM (by decide) hf 0 h;have e2:sK l=l[0].name:=by unfold sK;rw[aE,ao h];rfl
  rw[e2];exact⟨q1,q2 0 (by decide)⟩
 have g1:0<l.length→(iw p ((l.length - 1) * 2)).isSome=true∧gi F (iw (iw p ((l.length - 1) * 2)) 0)=some (S (sU l)):=fun h=>by
  obtain⟨q1,q2⟩:=fa eM (by decide) hf (l.length - 1) (by omega);have e2:sU l=l[l.length - 1].name:=by unfold sU;rw[aE,ao (by omega)];rfl
  rw[e2];exact⟨q1,q2 0 (by decide)⟩
 have w0:(sK l).length≤4611686018427387904:=by
  unfold sK;by_cases h:0<l.length
  ·rw[aE,ao h];exact (hw _ (aj h)).name
  rw[aE,cB (by omega)];exact az _
 have w1:(sU l).length≤4611686018427387904:=by
  unfold sU;by_cases h:0<l.length
  ·rw[aE,ao (by omega)];exact (hw _ (aj _)).name
  rw[aE,cB (by omega)];exact az _
 have n0:0<l.length→eP (sK l)=true∧eP (sU l)=true:=fun h=>by
  unfold sK sU;rw[aE,ao h,aE,ao (by omega)];exact⟨(hgood _ (aj h)).1,(hgood _ (aj _)).1⟩
 generalize sK l=x0 at *;generalize sU l=x1 at *;refine iz rfl rfl rfl rfl rfl (fun hg=>⟨by omega,by have:=hk0 hg.1;omega,dR hf (j:=0) (by rw[dO eM];have:=hk0 hg.1;omega)⟩) ?_;(refine run ?_;repeat intro b);refine iz rfl rfl rfl rfl rfl (fun hg=>(g0 (hk0 hg.1)).1) ?_;(refine run ?_;repeat intro b);refine su (S x0) rfl rfl rfl rfl rfl rfl (fun hg=>(g0 (hk0 hg.1)).2) ?_;(refine run ?_;repeat intro b);refine gm _ rfl rfl rfl rfl DC rfl rfl (fun hg=>ou x0 w0 F) ?_;(refine run ?_;repeat intro b);refine iz rfl rfl rfl rfl rfl (fun hg=>?_) ?_
 ·have h:=hk0 hg.1;rw[ew h];exact⟨by omega,by omega,dR hf (j:=(l.length - 1) * 2) (by rw[dO eM];omega)⟩
 (refine run ?_;repeat intro b);refine iz rfl rfl rfl rfl rfl (fun hg=>?_) ?_
 ·have h:=hk0 hg.1;rw[ew h,ae];exact (g1 h).1
 (refine run ?_;repeat intro b);refine su (S x1) rfl rfl rfl rfl rfl rfl (fun hg=>?_) ?_
 ·have h:=hk0 hg.1;rw[ew h,ae];exact (g1 h).2
 (refine run ?_;repeat intro b);refine gm _ rfl rfl rfl rfl DC rfl rfl (fun hg=>ou x1 w1 F) ?_;(refine run ?_;repeat intro b);refine eE (decide (0<l.length∧eC x0≠eC x1)) ?_ (fun h=>?_) (fun h=>?_)
 ·refine dV ?_;rw[fK,ai];by_cases h:0<l.length
  ·obtain⟨q0,q1⟩:=n0 h;unfold jQ;rw[aZ q0,aZ q1,show decide ((0:Int)<(l.length:Int))=true from aW (by omega)];simp[h];exact⟨fun h=>au h,fun h=>aX h⟩
  rw[show decide ((0:Int)<(l.length:Int))=false from aX (by omega)];simp[h]
 ·rw[aZ (ar h)]at e;rw[hO _ e (by decide),e];(refine run ?_;repeat intro b);rfl
 rw[aY (au h)]at e;have e2:u5 l=ju l:=by unfold u5;rw[aZ e]
 rw[e2,e];(refine run ?_;repeat intro b);refine dJ _ rfl rfl rfl N3 rfl (rG l tD hw hf) ?_;(refine run ?_;repeat intro b);rfl
theorem AL (p:jo)(k:Nat):((lK p (k+1)).map S).map EV.v=((lK p k).map S).map EV.v++[EV.v (S (ko p k))]:=by
 rw[Ko];simp
theorem AH:qX []=0:=by
 have:dY []=0:=by unfold dY;rfl
 unfold qX;rw[this];rfl
theorem Kd:u5 []=[0]:=by
 unfold u5;rw[aZ AH];rfl
theorem AM {p:jo}(h:fV p=0):qX p.gg=0:=by
 obtain⟨_,h2,h3,_,_⟩:=kO h;have e: ∀i,i<p.gg.length→eC (p.gg.getD i ⟨[],[]⟩).name=eC p.name:=fun i hi=>by
  rw[aE,ao hi];exact h3 _ (aj hi)
 unfold qX;rw[aY (by rw[h2];decide),aY];rintro⟨h4,h5⟩;exact h5 ((e 0 h4).trans (e (p.gg.length - 1) (by omega)).symm)
set_option maxHeartbeats 4000000 in
theorem CG (p:jo)(a:Lay)(hw:p.wf){F:Hp}(hf:p.at F a):iy Tryz.prog F 221 [p.v a] (fun x F'=>∃p' c',x=pair (.slice p' (nj p).length c') (i64 (fV p))∧(nj p).length≤c'∧e9 F' p' ((nj p).map S)):=by
 refine fW (N:=74) (rv:=[.tmp 2,.tmp 3]) eW mixed Tryz.func221 rfl rfl rfl rfl rfl ?_;(refine run ?_;repeat intro b);refine dJ _ rfl rfl rfl T4 rfl (Ae p a hw hf) ?_;(refine run ?_;repeat intro b);refine eE (decide (fV p≠0)) ?_ (fun h=>?_) (fun h=>?_)
 ·refine dV ?_;rw[ai];simp
 ·have e:nj p=[]:=by unfold nj;rw[aY (ar h)]
  rw[e];(refine run ?_;repeat intro b);exact eU (VS.iB [0] rfl (VS.id ⟨_,rfl,rfl,none,0,rfl,ah _,eJ _ _⟩))
 have h0:fV p=0:=by simpa using h
 obtain⟨z1,z2,z3,z4,z5⟩:=kO h0;obtain⟨y1,y2,_⟩:=fP z2;have e:nj p=lK p 17:=by unfold nj;rw[aZ h0]
 obtain⟨w1,w2,w3,w4,w5⟩:=hw;obtain⟨f1,f2⟩:=hf;rw[e,h0];(refine run ?_;repeat intro b);have hn:=wk [] (az _) (fun x hx=>by cases hx) (p:=none) (c:=0) (eJ F none);rw[AH,Kd]at hn;refine dJ _ rfl rfl rfl Qh rfl hn ?_;(refine run ?_;repeat intro b);have hlf:=wk p.gg w2 w3 (c:=a.ce) f1;have e2:u5 p.gg=ju p.gg:=by unfold u5;rw[aZ (AM h0)]
 rw[AM h0,e2]at hlf;refine dJ _ rfl rfl rfl Qh rfl hlf ?_;(refine run ?_;repeat intro b);refine dJ _ rfl rfl rfl IC rfl (oE p.name w1 F) ?_;have ew:jQ p.name=eC p.name:=by unfold jQ;rw[aZ z1]
 rw[ew];(refine run ?_;repeat intro b);refine eY (fun q:Nat×Nat×Nat=>q.1≤p.fF.length∧q.1+1≤q.2.2) (fun q=>⟨[(5,.v (S [0])),(7,.v (S (ko p q.1))),(9,.row 2 0 (q.1+1) q.2.2),(10,.v (S (eC p.name))),(36,.v (.slice a.s p.fF.length a.cs)),(37,.v (i64 (p.fF.length:Nat))),(38,.v (i64 (q.1:Nat)))],F,[(2,⟨some q.2.1,((lK p (q.1+1)).map S).map EV.v,9,q.2.2 * 1⟩)],3⟩) (fun q=>p.fF.length - q.1) (0,b,1) ⟨az _,ah _⟩ (VS.mP (nx':=3) [(1,2)] [5,7,9,10,36,37,38] [(2,⟨some b,((lK p (0+1)).map S).map EV.v,9,1⟩)] (dX rfl trivial) rfl rfl rfl rfl rfl rfl rfl) ?_;rintro⟨k,gq,cap⟩ ⟨hk,hcap⟩;dsimp only at hk hcap ⊢;have hsl:=na p (k+1);by_cases hlt:k<p.fF.length
 ·have aat:k<16:=by omega
  have g:=gS f2 (j:=k) (by rw[ab];exact hlt);rw[cG]at g;have hb:=rk p.name (15 - k) (by omega);have YZ:=uR y1 k;have hm:=z5 _ (aj hlt);have hst:ko p (k+1)=if (eC p.name).getD (15 - k) 0=48 then ld (gj (ko p k)) p.fF[k] else ld p.fF[k] (gj (ko p k)):=by
   have:p.fF[k]=p.fF.getD k 0:=by rw[aE,ao hlt];rfl
   rw[this];rfl
  have hsn:=AL p (k+1);have hmm:MM=2305843009213693951:=rfl;have hmk:=ln (ko p k);have ei:IntKind.i64.wrap (15 - (k:Int))=((15 - k:Nat):Int):=by rw[wrap_i64 (by omega) (by omega)];omega
  have hpl:=jN p.name;generalize p.fF[k]=m at g hm hst;generalize hW:eC p.name=W at hb hst hpl;(refine run ?_;repeat intro b);refine gw rfl (by omega) ?_;(refine run ?_;repeat intro b);refine dL rfl rfl rfl ⟨by omega,by omega,dR f2 (j:=k) (by rw[ab];exact hlt)⟩ ?_;refine fw (mu m) rfl rfl rfl rfl (by rw[ae,aA];exact g) ?_;(refine run ?_;repeat intro b);refine dJ _ rfl rfl rfl Cu rfl (ly (ko p k) (by omega) F) ?_;(refine run ?_;repeat intro b);rw[ei];refine dL rfl rfl rfl ⟨by omega,by simp only[ga];omega⟩ ?_;generalize gj (ko p k)=mk at hmk hst;(refine run ?_;repeat intro b);obtain⟨A,hA⟩: ∃A:Nat,A=if W.getD (15 - k) 0=48 then mk else m:=⟨_,rfl⟩
  obtain⟨B,hB⟩: ∃B:Nat,B=if W.getD (15 - k) 0=48 then m else mk:=⟨_,rfl⟩
  refine lp (β:=Unit) (fun _=>True) (fun _=>⟨[(5,.v (S [0])),(9,.row 2 0 (k+1) cap),(10,.v (S W)),(13,.v (u64 (A:Nat))),(14,.v (u64 (B:Nat))),(36,.v (.slice a.s p.fF.length a.cs)),(37,.v (i64 (p.fF.length:Nat))),(38,.v (i64 (k:Nat)))],F,[(2,⟨some gq,((lK p (k+1)).map S).map EV.v,9,cap * 1⟩)],3⟩) rfl (fun _ _=>?_) (fun vb kn kr ke=>?_)
  ·have hs2:ko p (k+1)=ld A B:=by
    rw[hst,hA,hB];split<;>rfl
   have hA2:A<18446744073709551616:=by rw[hA];split<;>omega
   have hB2:B<18446744073709551616:=by rw[hB];split<;>omega
   rw[hs2]at hsn;have hs3:=hs2;clear hA hB hst hs2;(refine run ?_;repeat intro b);have hn:Plain Tryz.prog F 62 [S [0]] (u64 (ka:Nat)):=ly [0] (by decide) F;refine dJ _ rfl rfl rfl Cu rfl hn ?_;have hnl:=se A B;unfold ld at hsn hnl;have hcells: ∀x,x=(if A=ka∧B=ka then [0] else two 2 A B)→(((lK p (k+1)).map S).map EV.v).take ((k+1) * 1)++[EV.v (S x)]=((lK p (k+1+1)).map S).map EV.v:=fun x hx=>by
    rw[hsn,hx,an (by simp[hsl])]
   have BG:(if A=ka∧B=ka then [0] else two 2 A B)=ko p (k+1):=by
    rw[hs3];rfl
   generalize ka=z at *;(refine run ?_;repeat intro b);refine eE (decide (¬(A=z∧B=z))) ?_ (fun h=>?_) (fun h=>?_)
   ·refine dV ?_;rw[fx,ai];simp;split<;>omega
   ·rw[aY (ar h)]at hcells BG;(refine run ?_;repeat intro b);refine dJ _ rfl rfl rfl QY rfl (IW 2 A B (by decide) hA2 hB2 F) ?_;(refine run ?_;repeat intro b);refine fy rfl rfl rfl rfl rfl rfl rfl rfl (ff rfl rfl) tl (fun h=>by cases h) hcap rfl (by simp[hsl]) (by show _ * 16≤_;omega) (fun h=>by cases h) (fun _ b2 c2 hc2=>?_);(refine run ?_;repeat intro b);rw[dT (by omega),BG];rw[BG]at hcells;exact fH (k+1,b2,c2) 2 [(4,2)] [5,7,9,10,36,37,38] [(2,⟨some b2,((lK p (k+1+1)).map S).map EV.v,9,c2 * 1⟩)] ⟨hlt,hc2⟩ (by simp only;omega) (aM _ _)
     (fi ⟨_,rfl,rfl,rfl,rfl,.inl ⟨(hcells _ rfl).symm,fun e he=>fz _ e ((hcells _ rfl) ▸ he)⟩⟩ trivial) rfl rfl rfl rfl rfl rfl rfl
   rw[aZ (by simpa using h)]at hcells BG;(refine run ?_;repeat intro b);refine fy rfl rfl rfl rfl rfl rfl rfl rfl (ff rfl rfl) tl (fun h=>by cases h) hcap rfl (by simp[hsl]) (by show _ * 16≤_;omega) (fun h=>by cases h) (fun _ b2 c2 hc2=>?_);(refine run ?_;repeat intro b);rw[dT (by omega),BG];rw[BG]at hcells;exact fH (k+1,b2,c2) 2 [(4,2)] [5,7,9,10,36,37,38] [(2,⟨some b2,((lK p (k+1+1)).map S).map EV.v,9,c2 * 1⟩)] ⟨hlt,hc2⟩ (by simp only;omega) (aM _ _)
    (fi ⟨_,rfl,rfl,rfl,rfl,.inl ⟨(hcells _ rfl).symm,fun e he=>fz _ e ((hcells _ rfl) ▸ he)⟩⟩ trivial) rfl rfl rfl rfl rfl rfl rfl
  rcases hb with h | h
  ·rw[aZ h]at hA hB;rw[ae,ga,h];(refine run ?_;repeat intro b);exact kn _ (VS.eL [5,9,10,13,14,36,37,38] rfl ⟨(),trivial,by rw[hA,hB]⟩)
  rw[aY (by rw[h];decide)]at hA hB;rw[ae,ga,h];(refine run ?_;repeat intro b);exact kn _ (VS.eL [5,9,10,13,14,36,37,38] rfl ⟨(),trivial,by rw[hA,hB]⟩)
 have hge:k=p.fF.length:=by omega
 have e16:p.fF.length+1=17:=by omega
 subst hge;rw[e16];(refine run ?_;repeat intro b);refine gy rfl (by omega) ?_;(refine run ?_;repeat intro b);refine eU ?_;refine VS.freeze 2 [2,3] rfl (eH _) rfl rfl fun F' hs1 hf1=>VS.id ⟨_,rfl,rfl,some ⟨gq,0,none⟩,cap,by rw[na];rfl,by rw[na];omega,hf1⟩
end Go.Proofs.YthbnddgjkonkdaaGreatDoor
