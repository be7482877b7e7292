/- A part of the proof. -/
import Derived.Test.YthbnddgjkonkdaaGreatDoorSetTreeAt
import Derived.Test.YthbnddgjkonkdaaGreatDoorSetClerkTick
set_option linter.unusedVariables false
set_option linter.unusedSimpArgs false
namespace Go.Proofs.YthbnddgjkonkdaaGreatDoor
section
open Go.TR
def jP (l:List UInt8):List Value:=(List.range 256).map fun j=>Value.bool (l.any fun c=>c.toNat==j)
theorem jb (l:List UInt8):(jP l).length=256:=by unfold jP;simp
theorem rM (l:List UInt8)(j:Nat)(h:j<256):(jP l)[j]? =some (.bool (l.any fun c=>c.toNat==j)):=by
 unfold jP;rw[aI,List.getElem?_range h];rfl
theorem FO:jP []=List.replicate 256 (.bool false):=by
 apply List.ext_getElem?;intro j;by_cases h:j<256
 ·rw[rM _ _ h,List.getElem?_replicate,aZ h];rfl
 rw[cy (by rw[jb];omega),cy (by rw[cI];omega)]
theorem LR (l:List UInt8)(c:UInt8):((jP l).map EV.v).take (0+c.toNat * 1)++[.v (.bool true)]++((jP l).map EV.v).drop (0+c.toNat * 1+1)=(jP (l++[c])).map EV.v:=by
 have hc:=c.toNat_lt;apply List.ext_getElem?;intro j;have e0:0+c.toNat * 1=c.toNat:=by omega
 rw[e0];have hl:(((jP l).map EV.v).take c.toNat).length=c.toNat:=by rw[aw,ab,jb];omega
 by_cases h:j<256
 ·rw[aI,rM _ _ h,bI];rcases Nat.lt_trichotomy j c.toNat with h1 | h1 | h1
  ·rw[bM,List.getElem?_append_left (by omega),cB,aZ h1,aI,rM _ _ h];have:([c].any fun c=>c.toNat==j)=false:=by simp;omega
   rw[this,Bool.or_false]
  ·subst h1;rw[bM,List.getElem?_append_right (by omega),hl,Nat.sub_self];simp
  rw[List.getElem?_append_right (by rw[ag,hl];simp;omega),ag,hl,cu,aI];have e:c.toNat+1+(j - (c.toNat+[EV.v (Value.bool true)].length))=j:=by simp;omega
  rw[e,rM _ _ h];have:([c].any fun c=>c.toNat==j)=false:=by simp;omega
  rw[this,Bool.or_false]
 rw[cy (by simp[hl,jb];omega),cy (by rw[ab,jb];omega)]
theorem Eu (l:List UInt8):((jP l).map EV.v).all one=true:=by
 rw[List.all_eq_true];intro e he;obtain⟨v,hv,rfl⟩:=aG.1 he;unfold jP at hv;obtain⟨j,_,rfl⟩:=aG.1 hv;rfl
def Kg:List Value:=List.replicate 256 (.bool false)
def Ub:TI:=⟨.array 256 4,256,256,Kg,false⟩
set_option maxRecDepth 100000 in
theorem RZ:TI.ok Tryz.prog 296 Ub where
 info:=⟨Tryz.t296,by kernel_rfl,rfl,rfl,_,rfl,rfl⟩
 kind:=⟨(TypeDesc.array 256 4),by kernel_rfl,rfl⟩
 flat:=fun h=>by cases h
def Zz:Tb:=fun t=>match Nat.beq t 296 with
 | true=>some Ub
 | false=>tb t
theorem Ef:gZ Tryz.prog Zz:=fun t i h=>by
 unfold Zz at h;split at h
 ·rename_i hb;have:=dg hb;subst this;cases h;exact RZ
 exact eP t i h
def Av (l:List UInt8)(c:UInt8):Bool:=l.any fun d=>d.toNat==c.toNat
def kY (p:UInt8→Bool):List UInt8→List UInt8
 | []=>[]
 | c::t=>match kY p t with
  | []=>if p c=true then [] else [c]
  | d::r=>c::d::r
def nZ (p:UInt8→Bool):List UInt8→List UInt8
 | []=>[]
 | c::t=>if p c=true then nZ p t else c::t
theorem zy (p:UInt8→Bool)(x:UInt8): ∀q:List UInt8,kY p (q++[x])=if p x=true then kY p q else q++[x]
 | []=>rfl
 | c::t=>by
  rw[bV];unfold kY;rw[zy p x t];by_cases h:p x=true
  ·rw[aZ h,aZ h]
  rw[aY h,aY h];cases t<;>rfl
theorem AJ (p:UInt8→Bool): ∀s:List UInt8,(kY p s).length≤s.length
 | []=>ah _
 | c::t=>by
  have ih:=AJ p t;unfold kY;cases h:kY p t with
  | nil=>by_cases hc:p c=true<;>simp[hc]
  | cons d r=>
   rw[h]at ih;simp only[aH]at ih ⊢;omega
theorem AH (p:UInt8→Bool): ∀s:List UInt8,kY p s=[] ↔ s.all p=true
 | []=>by simp[kY]
 | c::t=>by
  have ih:=AH p t;unfold kY;rw[List.all_cons];cases h:kY p t with
  | nil=>
   rw[(ih.1 h),Bool.and_true];cases hc:p c<;>simp
  | cons d r=>
   have:t.all p=false:=by
    cases ha:t.all p with
    | false=>rfl
    | true=>rw[ih.2 ha]at h;cases h
   rw[this];simp
theorem Bi (p:UInt8→Bool): ∀s:List UInt8,nZ p s=[] ↔ s.all p=true
 | []=>by simp[nZ]
 | c::t=>by
  unfold nZ;rw[List.all_cons];cases hc:p c with
  | false=>simp
  | true=>simpa using Bi p t
theorem yW (p:UInt8→Bool): ∀s:List UInt8,(kY p s).all p=s.all p
 | []=>rfl
 | c::t=>by
  have ih:=yW p t;unfold kY;cases h:kY p t with
  | nil=>
   have:=(AH p t).1 h;rw[List.all_cons,this,Bool.and_true];cases hc:p c<;>simp[hc]
  | cons d r=>
   rw[h]at ih;simp only[List.all_cons]at ih ⊢;rw[ih]
theorem N2 (p:UInt8→Bool)(s:List UInt8):nZ p (kY p s)=[] ↔ s.all p=true:=by rw[Bi,yW]
theorem OJ (l:List UInt8)(c:UInt8):(jP l)[c.toNat]? =some (.bool (Av l c)):=rM l c.toNat c.toNat_lt
theorem A7 (p:UInt8→Bool):kY p []=[]:=rfl
theorem Br (p:UInt8→Bool):nZ p []=[]:=rfl
theorem Hj (p:UInt8→Bool)(c:UInt8)(t:List UInt8):nZ p (c::t)=if p c=true then nZ p t else c::t:=rfl
theorem J9 {tb:Tb}{env:Env}{F:Hp}{rs:RL}{nx a t id off:Nat}{l:List ResultVar}{i:TI}{r:kj}{xs cs:List Value}(h1:oP rs (lk env a)=some (.loc id off))(h2:tb t=some i)(h3:fR rs id=some r)(h4:nC tb ⟨env,F,rs,nx⟩ l=some xs)(h5:i.kind.agg=true)(h6:iU rs ((r.cells.take (off+i.size)).drop off)=some cs)(h7:off+i.size≤r.cells.length):
  nC tb ⟨env,F,rs,nx⟩ (.cell a t::l)=some (.agg cs.toArray::xs):=by
 simp only[nC,h1,h2,h3,h4,h5,h6,h7,dC]
attribute [local irreducible] vc dT gx fc fA gC gG gw fG Plain eu eR dH VS fq fx fD ju fe IntKind.wrap
attribute [local irreducible] jP Kg kY nZ Av
set_option maxRecDepth 100000
set_option maxHeartbeats 2000000
theorem wP (l:List UInt8)(c:UInt8){b:Nat}{F:Hp}(hf:eY F (some ⟨b,0,none⟩) (jP l)):Plain Tryz.prog F 261 [.pointer (some ⟨b,0,none⟩),u8 (c.toNat:Nat)] (.bool (Av l c)):=by
 have hc:=c.toNat_lt;refine dN (N:=10) (rv:=[.tmp 4]) Ef mixed Tryz.func261 rfl rfl rfl rfl rfl ?_;(refine run ?_;repeat intro b);refine dI rfl rfl rfl rfl ?_;refine dI rfl rfl rfl ⟨by omega,by show ((c.toNat:Nat):Int)<256;omega,rfl⟩ ?_;refine fr (.bool (Av l c)) rfl rfl rfl rfl (by rw[ae];show gb F (im _ (c.toNat * 1))=_;rw[aA];exact hf c.toNat _ (OJ l c)) ?_;(refine run ?_;repeat intro b);rfl
theorem HI (s:List UInt8)(hs:s.length≤100)(ha: ∀c∈s,c.toNat<128)(F:Hp):Plain Tryz.prog F 210 [S s] (pair (.agg (jP s).toArray) (.bool true)):=by
 refine dN (N:=21) (rv:=[.cell 2 296,.tmp 3]) Ef mixed Tryz.func210 rfl rfl rfl rfl rfl ?_;(refine run ?_;repeat intro b);refine ux (i:=Ub) (cells:=(jP []).map EV.v) (n:=256) rfl (by rw[FO,fB];show some (List.map EV.v Kg)=_;unfold Kg;rfl) (by rw[ab,jb]) rfl fun b=>?_;(refine run ?_;repeat intro b);refine eU (fun k:Nat=>k≤s.length) (fun k=>⟨[(0,.v (S s)),(2,.loc 0 0),(4,.v (i64 (k:Nat)))],F,[(0,⟨some b,(jP (s.take k)).map EV.v,296,256⟩)],1⟩) (fun k=>s.length - k) 0 (az _) (VS.eH [0,2,4] rfl rfl) ?_;intro k hk;by_cases hlt:k<s.length
 ·have hc:=ha s[k] (aj hlt);have ht:s.take (k+1)=s.take k++[s[k]]:=al hlt;have hget:(bl (jB s)).getD ((k:Nat):Int).toNat 0=s[k]:=by rw[fX,ae];simp[List.getD,hlt]
  (refine run ?_;repeat intro b);refine ez true (by rw[←aW (p:=((k:Nat):Int)<(((bl (jB s)).length:Nat):Int)) (by rw[fX];omega)];rfl) (fun _=>?_) (fun h=>by cases h);(refine run ?_;repeat intro b);refine dI rfl rfl rfl ⟨by omega,by rw[fX];omega⟩ ?_;rw[hget];(refine run ?_;repeat intro b);refine gu rfl (by omega) ?_;(refine run ?_;repeat intro b);refine dI rfl rfl rfl ⟨by omega,by show ((s[k].toNat:Nat):Int)<256;omega⟩ ?_;refine iP ((jP (s.take (k+1))).map EV.v) rfl rfl rfl rfl rfl rfl ?_ ?_ rfl ?_
  ·show 0+((s[k].toNat:Nat):Int).toNat * 1+1≤((jP (s.take k)).map EV.v).length;rw[ab,jb];omega
  ·rw[ht];exact LR (s.take k) s[k]
  (refine run ?_;repeat intro b);rw[dQ (by omega)];exact fj (k+1) hlt (by omega) (VS.eH [0,2,4] rfl rfl)
 have hge:k=s.length:=by omega
 subst hge;rw[aD];(refine run ?_;repeat intro b);refine ez false (by rw[←aX (p:=((s.length:Nat):Int)<(((bl (jB s)).length:Nat):Int)) (by rw[fX];omega)];rfl) (fun h=>by cases h) (fun _=>?_);(refine run ?_;repeat intro b);refine lB (jP s) rfl rfl rfl rfl rfl (by show 0+256≤((jP s).map EV.v).length;rw[ab,jb];omega) (by show (((jP s).map EV.v).take (0+256)).drop 0=_;rw[List.drop_zero,an (by rw[ab,jb];omega)]) ?_;refine iP ((jP s).map EV.v) rfl rfl rfl rfl (by show ((jP s).map EV.v).length=256;rw[ab,jb]) (Eu s) (by show 0+256≤((jP s).map EV.v).length;rw[ab,jb];omega) (by show ((jP s).map EV.v).take 0++(jP s).map EV.v++((jP s).map EV.v).drop (0+256)=_;rw[db,cX,bW (by rw[ab,jb];omega),bT]) rfl ?_;(refine run ?_;repeat intro b);refine IF (xs:=[.agg (jP s).toArray,.bool true]) ?_ rfl;have e1:(((jP s).map EV.v).take (0+256)).drop 0=(jP s).map EV.v:=by rw[List.drop_zero,an (by rw[ab,jb];omega)]
 have e2: ∀rs,iU rs ((((jP s).map EV.v).take (0+256)).drop 0)=some (jP s):=fun rs=>by rw[e1];exact eD _
 have e3:0+256≤((jP s).map EV.v).length:=by rw[ab,jb];omega
 exact J9 (i:=Ub) rfl rfl rfl rfl rfl (e2 _) e3
theorem CF (l s:List UInt8)(hs:s.length≤4611686018427387904){b:Nat}{F:Hp}(hf:eY F (some ⟨b,0,none⟩) (jP l)):Plain Tryz.prog F 212 [S s,.pointer (some ⟨b,0,none⟩)] (S (kY (Av l) s)):=by
 refine dN (N:=22) (rv:=[.tmp 4]) Ef mixed Tryz.func212 rfl rfl rfl rfl rfl ?_;(refine run ?_;repeat intro b);refine eU (fun q:List UInt8=>kY (Av l) q=kY (Av l) s∧q.length≤s.length) (fun q=>⟨[(0,.v (S q)),(1,.v (.pointer (some ⟨b,0,none⟩)))],F,[],0⟩) (fun q=>q.length) s ⟨rfl,ah _⟩ (VS.eH [0,1] rfl rfl) ?_;rintro q ⟨h1,h2⟩;rcases List.eq_nil_or_concat q with rfl | ⟨q',x,rfl⟩
 ·(refine run ?_;repeat intro b);rw[←h1,A7];rfl
 rw[List.concat_eq_append]at *;have hlen:(q'++[x]).length=q'.length+1:=by simp
 have e1:IntKind.i64.wrap ((((bl (jB (q'++[x]))).length:Nat):Int) - 1)=((q'.length:Nat):Int):=by rw[fX,hlen,wrap_i64 (by omega) (by omega)];omega
 have e2:(bl (jB (q'++[x]))).getD ((q'.length:Nat):Int).toNat 0=x:=by rw[fX,ae];simp[List.getD]
 have e3:(bl (jB (q'++[x]))).take ((q'.length:Nat):Int).toNat=q':=by rw[fX,ae];simp
 rw[zy]at h1;(refine run ?_;repeat intro b);refine ez true (by rw[←aW (p:=(0:Int)<(((bl (jB (q'++[x]))).length:Nat):Int)) (by rw[fX,hlen];omega)];rfl) (fun _=>?_) (fun h=>by cases h);(refine run ?_;repeat intro b);rw[e1];refine dI rfl rfl rfl ⟨by omega,by rw[fX,hlen];omega⟩ ?_;rw[e2];(refine run ?_;repeat intro b);refine dG _ rfl rfl rfl Qs rfl (wP l x hf) ?_;cases hx:Av l x with
 | false=>
  rw[hx,aY (by decide)]at h1;(refine run ?_;repeat intro b);rw[←h1];rfl
 | true=>
  rw[hx,aZ rfl]at h1;(refine run ?_;repeat intro b);rw[e1];refine dI rfl rfl rfl ⟨by omega,by rw[fX,hlen];omega⟩ ?_;rw[e3];(refine run ?_;repeat intro b);exact fj q' ⟨h1,by omega⟩ (by rw[hlen];omega) (VS.eH [0,1] rfl rfl)
theorem Dz (l s:List UInt8)(hs:s.length≤4611686018427387904){b:Nat}{F:Hp}(hf:eY F (some ⟨b,0,none⟩) (jP l)):Plain Tryz.prog F 211 [S s,.pointer (some ⟨b,0,none⟩)] (S (nZ (Av l) s)):=by
 refine dN (N:=16) (rv:=[.tmp 4]) Ef mixed Tryz.func211 rfl rfl rfl rfl rfl ?_;(refine run ?_;repeat intro b);refine eU (fun q:List UInt8=>nZ (Av l) q=nZ (Av l) s∧q.length≤s.length) (fun q=>⟨[(0,.v (S q)),(1,.v (.pointer (some ⟨b,0,none⟩)))],F,[],0⟩) (fun q=>q.length) s ⟨rfl,ah _⟩ (VS.eH [0,1] rfl rfl) ?_;rintro q ⟨h1,h2⟩;cases q with
 | nil=>
  (refine run ?_;repeat intro b);rw[←h1,Br];rfl
 | cons x q'=>
  have hlen:(x::q').length=q'.length+1:=rfl;have e3:(bl (jB (x::q'))).drop (1:Int).toNat=q':=rfl;rw[Hj]at h1;(refine run ?_;repeat intro b);refine ez true (by rw[←aW (p:=(0:Int)<(((bl (jB (x::q'))).length:Nat):Int)) (by rw[fX,hlen];omega)];rfl) (fun _=>?_) (fun h=>by cases h);(refine run ?_;repeat intro b);refine dI rfl rfl rfl ⟨by omega,by rw[fX,hlen];omega⟩ ?_;(refine run ?_;repeat intro b);refine dG _ rfl rfl rfl Qs rfl (wP l x hf) ?_;cases hx:Av l x with
  | false=>
   rw[hx,aY (by decide)]at h1;(refine run ?_;repeat intro b);rw[←h1];rfl
  | true=>
   rw[hx,aZ rfl]at h1;(refine run ?_;repeat intro b);refine dI rfl rfl rfl ⟨by omega,by rw[fX,hlen];omega⟩ ?_;rw[e3];(refine run ?_;repeat intro b);exact fj q' ⟨h1,by omega⟩ (by rw[hlen];omega) (VS.eH [0,1] rfl rfl)
theorem PT (s:List UInt8)(hs:s.length≤4611686018427387904)(F:Hp):Plain Tryz.prog F 147 [S s,S [48,49]] (S (nZ (Av [48,49]) (kY (Av [48,49]) s))):=by
 refine dN (N:=43) (rv:=[.tmp 4]) Ef mixed Tryz.func147 rfl rfl rfl rfl rfl ?_;(refine run ?_;repeat intro b);refine ez (decide (s=[])) ?_ (fun h=>?_) (fun h=>?_)
 ·refine dS ?_;have e:bl ⟨#[]⟩=[]:=rfl;rw[fu,ai,e];simp only[bD];exact⟨fun h=>h.elim (fun h=>aW (ar h)) (fun h=>absurd (ar h) (by simp)),fun h=>.inl (aW (ar h))⟩
 ·have h:=ar h;subst h;rw[A7,Br];(refine run ?_;repeat intro b);rfl
 (refine run ?_;repeat intro b);refine dG _ rfl rfl rfl Ts rfl (HI [48,49] (by decide) (by decide) F) ?_;(refine run ?_;repeat intro b);refine dI (ob:=True) (e:=.v (.agg (jP [48,49]).toArray)) rfl (by rw[nF];rfl) rfl trivial ?_;(refine run ?_;repeat intro b);refine ux (i:=Ub) (cells:=(jP []).map EV.v) (n:=256) rfl (by rw[FO,fB];show some (List.map EV.v Kg)=_;unfold Kg;rfl) (by rw[ab,jb]) rfl fun b=>?_;refine iP ((jP [48,49]).map EV.v) rfl rfl rfl rfl (by show ((jP [48,49]).map EV.v).length=256;rw[ab,jb]) (Eu [48,49]) (by show 0+256≤((jP []).map EV.v).length;rw[ab,jb];omega) (by show ((jP []).map EV.v).take 0++(jP [48,49]).map EV.v++((jP []).map EV.v).drop (0+256)=_;rw[db,cX,bW (by rw[ab,jb];omega),bT]) rfl ?_;(refine run ?_;repeat intro b);refine fT (VS.freeze 0 [5,35] rfl (eD _) rfl rfl fun F1 hs1 hf1=>VS.id ?_);refine dG _ rfl rfl rfl Wf rfl (CF [48,49] s hs hf1) ?_;have hl:=AJ (Av [48,49]) s;refine dG _ rfl rfl rfl Ux rfl (Dz [48,49] _ (by omega) hf1) ?_;(refine run ?_;repeat intro b);rfl
end
section
open Go.TR
def kB (s:List UInt8):Bool:=s.all (Av [48,49])&&decide (s.length≤16)
def Oq (l:List Entry)(s:List UInt8):Int:=if dV l≠0 then dV l else if kB s=true then 0 else 3
def RO (l:List Entry)(s:List UInt8):Nat:=if Oq l s=0 then gK l s else 0
theorem yK {l:List Entry}{s:List UInt8}{e:Int}(h:Oq l s=e)(he:e≠0):RO l s=0:=by unfold RO;rw[h,aY he]
theorem nH {l:List Entry}(s:List UInt8)(h:dV l≠0):Oq l s=dV l:=aZ h
theorem Fl {l:List Entry}(s:List UInt8)(h:dV l=0):Oq l s=if kB s=true then 0 else 3:=aY (by rw[h];decide)
theorem uF {l:List Entry}{s:List UInt8}(h:dV l=0)(hs:kB s=true):Oq l s=0∧RO l s=gK l s:=by
 have e:Oq l s=0:=by rw[Fl s h,aZ hs]
 exact⟨e,by unfold RO;rw[aZ e]⟩
theorem O1 {l:List Entry}{s:List UInt8}(h:dV l=0)(hs:kB s=false):Oq l s=3∧RO l s=0:=by
 have e:Oq l s=3:=by rw[Fl s h,aY (by rw[hs];decide)]
 exact⟨e,yK e (by decide)⟩
theorem re:kB []=true:=by decide
theorem wD {s:List UInt8}(h:kB s=true):s.length≤16:=by
 unfold kB at h;rw[aL]at h;exact ar h.2
theorem Da (s:List UInt8):(decide (16<s.length)|| !decide (nZ (Av [48,49]) (kY (Av [48,49]) s)=[]))= !kB s:=by
 unfold kB;rw[ai];simp only[bD,av,bz,aU,bn,N2];cases s.all (Av [48,49])<;>simp<;>omega
theorem OE {l:List Entry}{s:List UInt8}(hg: ∀x∈l,eL x.name=true)(h:s.length≤16):Bh (16 - s.length) (lp l s) s=gK l s:=Cx hg _ s (by omega)
attribute [local irreducible] vc dT gx fc fA gC gG gw fG Plain eu eR dH VS fq fx fD ju fe IntKind.wrap
attribute [local irreducible] kB Av nZ kY dV gK kG begun Bh lp jX gg
set_option maxRecDepth 100000
set_option maxHeartbeats 2000000
theorem Bg (l:List Entry)(s:List UInt8)(hl:l.length≤4611686018427387904)(hw: ∀x∈l,x.wf)(hs:s.length≤4611686018427387904){p:Option Addr}{c:Nat}{F:Hp}(hf:eY F p (l.flatMap Entry.row)):Plain Tryz.prog F 88 [.slice p l.length c,S s] (pair (mu (RO l s)) (i64 (Oq l s))):=by
 refine dN (N:=25) (rv:=[.tmp 4,.tmp 5]) eP mixed Tryz.func88 rfl rfl rfl rfl rfl ?_;(refine run ?_;repeat intro b);refine dG _ rfl rfl rfl Ma rfl (mw l hl hw hf) ?_;rcases lV l with h0 | h0 | h0
 ·obtain⟨tA,hgood,_⟩:=fL h0;rw[h0];(refine run ?_;repeat intro b);refine gi _ rfl rfl rfl rfl VC rfl rfl (fun _=>PT s hs F) ?_;(refine run ?_;repeat intro b);refine ez (!kB s) ?_ (fun h=>?_) (fun h=>?_)
  ·refine dS ?_;rw[fu,←Da];have e1:decide ((16:Int)<(((bl (jB s)).length:Nat):Int))=decide (16<s.length):=by rw[aV,fX];omega
   rw[e1];rfl
  ·rw[bz]at h;obtain⟨e1,e2⟩:=O1 h0 h;rw[e1,e2];(refine run ?_;repeat intro b);rfl
  rw[Bool.not_eq_false']at h;obtain⟨e1,e2⟩:=uF (s:=s) h0 h;rw[e1,e2];have h16:=wD h;(refine run ?_;repeat intro b);refine fi rfl rfl rfl Mx rfl (xY l s tA hw hf) ?_;rintro _ F1 hF1 ⟨p1,c1,rfl,hf1⟩;(refine run ?_;repeat intro b);have hul:=zn l s;refine dG _ rfl rfl rfl L9 rfl (Ke (16 - s.length) (lp l s) s (by omega) (by omega) (fun x hx=>hw x (xW hx)) hf1) ?_;rw[OE (fun x hx=>(hgood x hx).1) h16];(refine run ?_;repeat intro b);rfl
 ·rw[nH s (by rw[h0];decide),yK (nH s (by rw[h0];decide)) (by rw[h0];decide),h0];(refine run ?_;repeat intro b);rfl
 rw[nH s (by rw[h0];decide),yK (nH s (by rw[h0];decide)) (by rw[h0];decide),h0];(refine run ?_;repeat intro b);rfl
theorem qQ (l:List Entry)(hl:l.length≤4611686018427387904)(hw: ∀x∈l,x.wf){p:Option Addr}{c:Nat}{F:Hp}(hf:eY F p (l.flatMap Entry.row)):Plain Tryz.prog F 34 [.slice p l.length c] (pair (mu (RO l [])) (i64 (Oq l []))):=by
 refine dN (N:=8) (rv:=[.tmp 2,.tmp 3]) eP mixed Tryz.func34 rfl rfl rfl rfl rfl ?_;(refine run ?_;repeat intro b);refine dG _ rfl rfl rfl Tr rfl (Bg l [] hl hw (by decide) hf) ?_;(refine run ?_;repeat intro b);rfl
theorem Am (l:List Entry)(s:List UInt8)(hl:l.length≤24)(hw: ∀x∈l,x.wf){p:Option Addr}{c:Nat}{F:Hp}(hf:eY F p (l.flatMap Entry.row)):Plain Tryz.prog F 132 [.slice p l.length c,S s] (mu (gK l s)):=by
 refine dN (N:=17) (rv:=[.tmp 4]) eP mixed Tryz.func132 rfl rfl rfl rfl rfl ?_;(refine run ?_;repeat intro b);refine fi rfl rfl rfl Qg rfl (AN l hl hw hf) ?_;rintro _ F1 hF1 ⟨b0,es,clock,rfl,hb,hM⟩;(refine run ?_;repeat intro b);refine pR (kG l (begun l)) s qq nz rfl rfl rh rfl hb hM ?_;rw[aZ rfl];cases hg:begun l s with
 | true=>
  rw[pC hg];(refine run ?_;repeat intro b);rfl
 | false=>
  rw[tM hg,pL hg];(refine run ?_;repeat intro b);refine dG _ rfl rfl rfl vQ rfl (nB F1) ?_;(refine run ?_;repeat intro b);rfl
end
section
open Go.TR
theorem ln {bs:List Bk}{l:List (List Entry)}(h:bs.map (·.2.1)=l):bs.length=l.length:=by rw[←h,ab]
theorem oc {bs:List Bk}{l:List (List Entry)}(h:bs.map (·.2.1)=l){k:Nat}(hk:k<l.length): ∃s:Bk,bs[k]? =some s∧s.2.1=l[k]∧s∈bs:=by
 have hl:=ln h;have hk':k<bs.length:=by omega
 refine⟨bs[k],ao hk',?_,aj hk'⟩;subst h;simp
theorem mX {F:Hp}{p:Option Addr}{bs:List Bk}(h:eY F p (bs.map Bk.v)){k:Nat}{s:Bk}(hk:bs[k]? =some s):gb F (im p k)=some s.v:=h k _ (by rw[aI,hk];rfl)
theorem Dw {hs:List Head}{bs:List (List Entry)}{k:Nat}(h1:k<hs.length)(h2:k<bs.length):ir (hs.drop k) (bs.drop k)=if dV bs[k]≠0 then dV bs[k] else if gK bs[k] []≠hs[k].root then 8 else ir (hs.drop (k+1)) (bs.drop (k+1)):=by
 rw[aO h1,aO h2];rfl
theorem Hx (hs:List Head):ir hs []=0:=by cases hs<;>rfl
theorem vj {c:eE}(h:0<c.ee.length):gH c=c.ee[c.ee.length - 1]:=by
 unfold gH;rw[List.getLastD_eq_getLast?,List.getLast?_eq_getElem?,ao (by omega)];rfl
attribute [local irreducible] vc dT gx fc fA gC gG gw fG Plain eu eR dH VS fq fx fD ju fe IntKind.wrap
attribute [local irreducible] dV gK ir gH fK
set_option maxRecDepth 100000
set_option maxHeartbeats 4000000
theorem ur (n m:Int)(F:Hp):Plain Tryz.prog F 33 [i64 n,i64 m] (.bool (decide (1≤n)&&decide (n≤m))):=by
 refine dN (N:=12) (rv:=[.tmp 4]) eP mixed Tryz.func33 rfl rfl rfl rfl rfl ?_;(refine run ?_;repeat intro b);rw[fH];rfl
theorem vF (c:eE)(a:jf)(F:Hp):Plain Tryz.prog F 38 [c.v a] (.bool (gn c)):=by
 refine dN (N:=12) (rv:=[.tmp 2]) eP mixed Tryz.func38 rfl rfl rfl rfl rfl ?_;(refine run ?_;repeat intro b);have e:lL (((c.dP.length:Nat):Int)==40) true (c.now==1000000000)=gn c:=by
  rw[fu,ai];unfold gn;simp;omega
 rw[e];rfl
theorem ID (c:eE)(a:jf)(bs:List Bk)(h0:0<c.ee.length)(hn:c.ee.length≤8796093022208)(hb:bs.map (·.2.1)=c.ee){F:Hp}(hf:eY F a.b (bs.map Bk.v)): ∃s:Bk,s∈bs∧s.2.1=gH c∧Plain Tryz.prog F 44 [c.v a] s.v:=by
 obtain⟨s,h1,h2,h3⟩:=oc hb (k:=c.ee.length - 1) (by omega);refine⟨s,h3,by rw[h2,vj h0],?_⟩;have hc:=mX hf h1;have ew:IntKind.i64.wrap (((c.ee.length:Nat):Int) - 1)=((c.ee.length - 1:Nat):Int):=by rw[wrap_i64 (by omega) (by omega)];omega
 refine dN (N:=11) (rv:=[.tmp 2]) eP mixed Tryz.func44 rfl rfl rfl rfl rfl ?_;(refine run ?_;repeat intro b);rw[ew];refine dI rfl rfl rfl ⟨by omega,by omega,dO hf (j:=c.ee.length - 1) (by rw[ab,ln hb];omega)⟩ ?_;refine fr s.v rfl rfl rfl rfl (by rw[ae,aA];exact hc) ?_;(refine run ?_;repeat intro b);rfl
theorem Mk (c:eE)(a:jf)(hw:c.wf)(h0:0<c.dP.length){F:Hp}(ha:c.at F a):Plain Tryz.prog F 91 [c.v a] (i64 (jD c)):=by
 obtain⟨bs,hb,wW,hbs⟩:=ha.b;have hhl:=hw.hlen;have hlh:=vH h0;have eH0:(c.dP.getD 0 Head.none).dW=c.dP[0].dW:=by simp[List.getD,h0]
 have eF:ns c=(!(c.dP[0].dW==0)||(decide (c.ee.length≠c.dP.length)||decide (c.now<c.dP[c.dP.length - 1].at_))):=by
  unfold ns;rw[eH0,hlh,Bool.or_assoc];congr 1;rw[ai];simp
 obtain⟨o1,o2⟩:=eZ eW (by decide) ha.h 0 h0;obtain⟨o3,o4⟩:=eZ eW (by decide) ha.h (c.dP.length - 1) (by omega);have ew:IntKind.i64.wrap (((c.dP.length:Nat):Int) - 1)=((c.dP.length - 1:Nat):Int):=by rw[wrap_i64 (by omega) (by omega)];omega
 have hB:jD c=if ns c=true then 3 else ir c.dP c.ee:=rfl
 rw[eF]at hB;generalize c.dP[0]=ha0 at *;generalize c.dP[c.dP.length - 1]=hl0 at *;refine dN (N:=63) (rv:=[.tmp 2]) eP mixed Tryz.func91 rfl rfl rfl rfl rfl ?_;(refine run ?_;repeat intro b);refine fM (by kernel_rfl) ?_;(refine run ?_;repeat intro b);refine dI rfl rfl rfl ⟨by omega,by omega,dO ha.h (j:=0) (by rw[dL eW];omega)⟩ ?_;(refine run ?_;repeat intro b);refine dI rfl rfl rfl o1 ?_;(refine run ?_;repeat intro b);refine fr (i64 ha0.dW) rfl rfl rfl rfl (o2 0 (by decide)) ?_;(refine run ?_;repeat intro b);rw[ew];refine iw rfl rfl rfl rfl rfl (fun _=>⟨by omega,by omega,dO ha.h (j:=(c.dP.length - 1) * 4) (by rw[dL eW];omega)⟩) ?_;(refine run ?_;repeat intro b);refine iw rfl rfl rfl rfl rfl (fun _=>by rw[ae];exact o3) ?_;(refine run ?_;repeat intro b);refine sg (i64 hl0.at_) rfl rfl rfl rfl rfl rfl (fun _=>by rw[ae];exact o4 3 (by decide)) ?_;(refine run ?_;repeat intro b);refine ez (ns c) ?_ (fun h=>?_) (fun h=>?_)
 ·refine dS ?_;rw[fu,fu,eF,Bool.or_assoc];congr 1;congr 1;rw[ai];simp;omega
 ·rw[eF]at h;rw[aZ h]at hB;rw[hB];(refine run ?_;repeat intro b);rfl
 rw[eF]at h;rw[aY (by rw[h];decide)]at hB;have hlen:c.ee.length=c.dP.length:=by
  simp only[aQ,aU,ne_eq,bE]at h;exact h.2.1
 rw[hB];have h64:=hw.hlen;(refine run ?_;repeat intro b);refine eU (fun k:Nat=>k≤c.ee.length∧ir (c.dP.drop k) (c.ee.drop k)=ir c.dP c.ee) (fun k=>⟨[(1,.loc 0 0),(37,.v (.slice a.b c.ee.length a.cb)),(38,.v (i64 (c.ee.length:Nat))),(39,.v (i64 (k:Nat)))],F,[(0,⟨some b,[.v (i64 c.queue.most),.v (.slice a.w c.queue.wait.length a.cw),.v (i64 c.batch),.v (i64 c.every),.v (i64 c.now),.v (.slice a.h c.dP.length a.ch),.v (.slice a.b c.ee.length a.cb)],28,7⟩)],1⟩) (fun k=>c.ee.length - k) 0 ⟨az _,rfl⟩ (VS.eH [1,37,38,39] rfl rfl) ?_;rintro k ⟨hk,hr⟩;by_cases hlt:k<c.ee.length
 ·have hst:=Dw (hs:=c.dP) (bs:=c.ee) (k:=k) (by omega) hlt;rw[hr]at hst;obtain⟨⟨ps,ls,cs⟩,k1,k2,k3⟩:=oc hb hlt;have kc:=mX wW k1;have hat:=hbs _ k3;have hwl:=hw.ee c.ee[k] (aj hlt);obtain⟨o5,o6⟩:=eZ eW (by decide) ha.h k (by omega);simp only at k2 hat;rw[←k2]at hst hwl;generalize c.dP[k]'(by omega)=hk0 at *;(refine run ?_;repeat intro b);refine gm rfl (by omega) ?_;(refine run ?_;repeat intro b);refine dI rfl rfl rfl ⟨by omega,by omega,dO wW (j:=k) (by rw[ab,ln hb];omega)⟩ ?_;refine fr (Bk.v (ps,ls,cs)) rfl rfl rfl rfl (by rw[ae,aA];exact kc) ?_;(refine run ?_;repeat intro b);refine dG _ rfl rfl rfl R4 rfl (qQ ls (by omega) hwl.2 hat.2) ?_;rcases lV ls with f0 | f0 | f0
  ·obtain⟨r1,r2⟩:=uF f0 re;rw[f0,aY (by decide)]at hst;rw[r1,r2];(refine run ?_;repeat intro b);refine dI rfl rfl rfl ⟨by omega,by omega,dO ha.h (j:=k * 4) (by rw[dL eW];omega)⟩ ?_;(refine run ?_;repeat intro b);refine dI rfl rfl rfl (by rw[ae];exact o5) ?_;(refine run ?_;repeat intro b);refine fr (u64 (hk0.root:Nat)) rfl rfl rfl rfl (by rw[ae];exact o6 1 (by decide)) ?_;(refine run ?_;repeat intro b);refine ez (decide (gK ls []≠hk0.root)) ?_ (fun g=>?_) (fun g=>?_)
   ·refine dS ?_;rw[ai];simp;omega
   ·rw[aZ (ar g)]at hst;rw[hst];(refine run ?_;repeat intro b);rfl
   rw[aY (au g)]at hst;(refine run ?_;repeat intro b);rw[dQ (by omega)];exact fj (k+1) ⟨hlt,hst.symm⟩ (by omega) (VS.eH [1,37,38,39] rfl rfl)
  ·have r1:=nH (l:=ls) [] (by rw[f0];decide);have r2:=yK r1 (by rw[f0];decide);rw[f0,aZ (by decide)]at hst;rw[hst,r1,r2,f0];(refine run ?_;repeat intro b);rfl
  have r1:=nH (l:=ls) [] (by rw[f0];decide);have r2:=yK r1 (by rw[f0];decide);rw[f0,aZ (by decide)]at hst;rw[hst,r1,r2,f0];(refine run ?_;repeat intro b);rfl
 have hge:k=c.ee.length:=by omega
 have hz:ir c.dP c.ee=0:=by
  rw[←hr,hge,bZ,Hx]
 rw[hz];(refine run ?_;repeat intro b);refine gu rfl (by omega) ?_;(refine run ?_;repeat intro b);rfl
end
end Go.Proofs.YthbnddgjkonkdaaGreatDoor
