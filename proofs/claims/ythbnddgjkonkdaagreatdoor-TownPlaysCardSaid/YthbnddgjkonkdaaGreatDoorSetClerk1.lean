/- A part of the proof. -/
import Derived.Test.YthbnddgjkonkdaaGreatDoorSetTreeAt
import Derived.Test.YthbnddgjkonkdaaGreatDoorSetClerkTick
set_option linter.unusedVariables false
set_option linter.unusedSimpArgs false
namespace Go.Proofs.YthbnddgjkonkdaaGreatDoor
section
open Go.TR
def jV (l:List UInt8):List Value:=(List.range 256).map fun j=>Value.bool (l.any fun c=>c.toNat==j)
theorem jh (l:List UInt8):(jV l).length=256:=by unfold jV;simp
theorem rH (l:List UInt8)(j:Nat)(h:j<256):(jV l)[j]? =some (.bool (l.any fun c=>c.toNat==j)):=by
 unfold jV;rw[aI,List.getElem?_range h];rfl
theorem FL:jV []=List.replicate 256 (.bool false):=by
 apply List.ext_getElem?;intro j;by_cases h:j<256
 ·rw[rH _ _ h,List.getElem?_replicate,aZ h];rfl
 rw[cB (by rw[jh];omega),cB (by rw[cL];omega)]
theorem Ni (l:List UInt8)(c:UInt8):((jV l).map EV.v).take (0+c.toNat * 1)++[.v (.bool true)]++((jV l).map EV.v).drop (0+c.toNat * 1+1)=(jV (l++[c])).map EV.v:=by
 have hc:=c.toNat_lt;apply List.ext_getElem?;intro j;have e0:0+c.toNat * 1=c.toNat:=by omega
 rw[e0];have hl:(((jV l).map EV.v).take c.toNat).length=c.toNat:=by rw[aw,ab,jh];omega
 by_cases h:j<256
 ·rw[aI,rH _ _ h,bK];rcases Nat.lt_trichotomy j c.toNat with h1 | h1 | h1
  ·rw[bU,List.getElem?_append_left (by omega),cE,aZ h1,aI,rH _ _ h];have:([c].any fun c=>c.toNat==j)=false:=by simp;omega
   rw[this,Bool.or_false]
  ·subst h1;rw[bU,List.getElem?_append_right (by omega),hl,Nat.sub_self];simp
  rw[List.getElem?_append_right (by rw[ag,hl];simp;omega),ag,hl,cA,aI];have e:c.toNat+1+(j - (c.toNat+[EV.v (Value.bool true)].length))=j:=by simp;omega
  rw[e,rH _ _ h];have:([c].any fun c=>c.toNat==j)=false:=by simp;omega
  rw[this,Bool.or_false]
 rw[cB (by simp[hl,jh];omega),cB (by rw[ab,jh];omega)]
theorem D9 (l:List UInt8):((jV l).map EV.v).all one=true:=by
 rw[bJ];intro e he;obtain⟨v,hv,rfl⟩:=aG.1 he;unfold jV at hv;obtain⟨j,_,rfl⟩:=aG.1 hv;rfl
def J5:List Value:=List.replicate 256 (.bool false)
def T3:TI:=⟨.array 256 4,256,256,J5,false⟩
set_option maxRecDepth 100000 in
theorem Rt:TI.ok Tryz.prog 296 T3 where
 info:=⟨Tryz.t296,by kernel_rfl,rfl,rfl,_,rfl,rfl⟩
 kind:=⟨(TypeDesc.array 256 4),by kernel_rfl,rfl⟩
 flat:=fun h=>by cases h
def ZC:Tb:=fun t=>match Nat.beq t 296 with
 | true=>some T3
 | false=>tb t
theorem Ew:g9 Tryz.prog ZC:=fun t i h=>by
 unfold ZC at h;split at h
 ·rename_i hb;have:=dj hb;subst this;cases h;exact Rt
 exact eW t i h
def An (l:List UInt8)(c:UInt8):Bool:=l.any fun d=>d.toNat==c.toNat
def kY (p:UInt8→Bool):List UInt8→List UInt8
 | []=>[]
 | c::t=>match kY p t with
  | []=>if p c=true then [] else [c]
  | d::r=>c::d::r
def nX (p:UInt8→Bool):List UInt8→List UInt8
 | []=>[]
 | c::t=>if p c=true then nX p t else c::t
theorem za (p:UInt8→Bool)(x:UInt8): ∀q:List UInt8,kY p (q++[x])=if p x=true then kY p q else q++[x]
 | []=>rfl
 | c::t=>by
  rw[bZ];unfold kY;rw[za p x t];by_cases h:p x=true
  ·rw[aZ h,aZ h]
  rw[aY h,aY h];cases t<;>rfl
theorem AK (p:UInt8→Bool): ∀s:List UInt8,(kY p s).length≤s.length
 | []=>ah _
 | c::t=>by
  have ih:=AK p t;unfold kY;cases h:kY p t with
  | nil=>by_cases hc:p c=true<;>simp[hc]
  | cons d r=>
   rw[h]at ih;simp only[aH]at ih ⊢;omega
theorem Bn (p:UInt8→Bool): ∀s:List UInt8,kY p s=[] ↔ s.all p=true
 | []=>by simp[kY]
 | c::t=>by
  have ih:=Bn p t;unfold kY;rw[bI];cases h:kY p t with
  | nil=>
   rw[(ih.1 h),Bool.and_true];cases hc:p c<;>simp
  | cons d r=>
   have:t.all p=false:=by
    cases ha:t.all p with
    | false=>rfl
    | true=>rw[ih.2 ha]at h;cases h
   rw[this];simp
theorem Bf (p:UInt8→Bool): ∀s:List UInt8,nX p s=[] ↔ s.all p=true
 | []=>by simp[nX]
 | c::t=>by
  unfold nX;rw[bI];cases hc:p c with
  | false=>simp
  | true=>simpa using Bf p t
theorem yP (p:UInt8→Bool): ∀s:List UInt8,(kY p s).all p=s.all p
 | []=>rfl
 | c::t=>by
  have ih:=yP p t;unfold kY;cases h:kY p t with
  | nil=>
   have:=(Bn p t).1 h;rw[bI,this,Bool.and_true];cases hc:p c<;>simp[hc]
  | cons d r=>
   rw[h]at ih;simp only[bI]at ih ⊢;rw[ih]
theorem MS (p:UInt8→Bool)(s:List UInt8):nX p (kY p s)=[] ↔ s.all p=true:=by rw[Bf,yP]
theorem Pn (l:List UInt8)(c:UInt8):(jV l)[c.toNat]? =some (.bool (An l c)):=rH l c.toNat c.toNat_lt
theorem Bj (p:UInt8→Bool):kY p []=[]:=rfl
theorem AN (p:UInt8→Bool):nX p []=[]:=rfl
theorem Hl (p:UInt8→Bool)(c:UInt8)(t:List UInt8):nX p (c::t)=if p c=true then nX p t else c::t:=rfl
theorem Kf {tb:Tb}{env:Env}{F:Hp}{rs:RL}{nx a t id off:Nat}{l:List ResultVar}{i:TI}{r:kg}{xs cs:List Value}(h1:oV rs (lk env a)=some (.loc id off))(h2:tb t=some i)(h3:fU rs id=some r)(h4:nF tb ⟨env,F,rs,nx⟩ l=some xs)(h5:i.kind.agg=true)(h6:iZ rs ((r.cells.take (off+i.size)).drop off)=some cs)(h7:off+i.size≤r.cells.length):
  nF tb ⟨env,F,rs,nx⟩ (.cell a t::l)=some (.agg cs.toArray::xs):=by
 simp only[nF,h1,h2,h3,h4,h5,h6,h7,dF]
attribute [local irreducible] vc dW gz fg fD gF gJ gB fJ Plain eD eX dK VS fv fA fG jt fh IntKind.wrap
attribute [local irreducible] jV J5 kY nX An
set_option maxRecDepth 100000
set_option maxHeartbeats 2000000
theorem wF (l:List UInt8)(c:UInt8){b:Nat}{F:Hp}(hf:e9 F (some ⟨b,0,none⟩) (jV l)):Plain Tryz.prog F 261 [.pointer (some ⟨b,0,none⟩),u8 (c.toNat:Nat)] (.bool (An l c)):=by
 have hc:=c.toNat_lt;refine dQ (N:=10) (rv:=[.tmp 4]) Ew mixed Tryz.func261 rfl rfl rfl rfl rfl ?_;(refine run ?_;repeat intro b);refine dL rfl rfl rfl rfl ?_;refine dL rfl rfl rfl ⟨by omega,by show ((c.toNat:Nat):Int)<256;omega,rfl⟩ ?_;refine fw (.bool (An l c)) rfl rfl rfl rfl (by rw[ae];show gi F (iw _ (c.toNat * 1))=_;rw[aA];exact hf c.toNat _ (Pn l c)) ?_;(refine run ?_;repeat intro b);rfl
theorem GM (s:List UInt8)(hs:s.length≤100)(ha: ∀c∈s,c.toNat<128)(F:Hp):Plain Tryz.prog F 210 [S s] (pair (.agg (jV s).toArray) (.bool true)):=by
 refine dQ (N:=21) (rv:=[.cell 2 296,.tmp 3]) Ew mixed Tryz.func210 rfl rfl rfl rfl rfl ?_;(refine run ?_;repeat intro b);refine uq (i:=T3) (cells:=(jV []).map EV.v) (n:=256) rfl (by rw[FL,fE];show some (List.map EV.v J5)=_;unfold J5;rfl) (by rw[ab,jh]) rfl fun b=>?_;(refine run ?_;repeat intro b);refine eY (fun k:Nat=>k≤s.length) (fun k=>⟨[(0,.v (S s)),(2,.loc 0 0),(4,.v (i64 (k:Nat)))],F,[(0,⟨some b,(jV (s.take k)).map EV.v,296,256⟩)],1⟩) (fun k=>s.length - k) 0 (az _) (VS.eL [0,2,4] rfl rfl) ?_;intro k hk;by_cases hlt:k<s.length
 ·have hc:=ha s[k] (aj hlt);have ht:s.take (k+1)=s.take k++[s[k]]:=al hlt;have hget:(bl (jE s)).getD ((k:Nat):Int).toNat 0=s[k]:=by rw[ga,ae];simp[List.getD,hlt]
  (refine run ?_;repeat intro b);refine eE true (by rw[←aW (p:=((k:Nat):Int)<(((bl (jE s)).length:Nat):Int)) (by rw[ga];omega)];rfl) (fun _=>?_) (fun h=>by cases h);(refine run ?_;repeat intro b);refine dL rfl rfl rfl ⟨by omega,by rw[ga];omega⟩ ?_;rw[hget];(refine run ?_;repeat intro b);refine gy rfl (by omega) ?_;(refine run ?_;repeat intro b);refine dL rfl rfl rfl ⟨by omega,by show ((s[k].toNat:Nat):Int)<256;omega⟩ ?_;refine iS ((jV (s.take (k+1))).map EV.v) rfl rfl rfl rfl rfl rfl ?_ ?_ rfl ?_
  ·show 0+((s[k].toNat:Nat):Int).toNat * 1+1≤((jV (s.take k)).map EV.v).length;rw[ab,jh];omega
  ·rw[ht];exact Ni (s.take k) s[k]
  (refine run ?_;repeat intro b);rw[dT (by omega)];exact fp (k+1) hlt (by omega) (VS.eL [0,2,4] rfl rfl)
 have hge:k=s.length:=by omega
 subst hge;rw[aD];(refine run ?_;repeat intro b);refine eE false (by rw[←aX (p:=((s.length:Nat):Int)<(((bl (jE s)).length:Nat):Int)) (by rw[ga];omega)];rfl) (fun h=>by cases h) (fun _=>?_);(refine run ?_;repeat intro b);refine lA (jV s) rfl rfl rfl rfl rfl (by show 0+256≤((jV s).map EV.v).length;rw[ab,jh];omega) (by show (((jV s).map EV.v).take (0+256)).drop 0=_;rw[cj,an (by rw[ab,jh];omega)]) ?_;refine iS ((jV s).map EV.v) rfl rfl rfl rfl (by show ((jV s).map EV.v).length=256;rw[ab,jh]) (D9 s) (by show 0+256≤((jV s).map EV.v).length;rw[ab,jh];omega) (by show ((jV s).map EV.v).take 0++(jV s).map EV.v++((jV s).map EV.v).drop (0+256)=_;rw[df,c7,cd (by rw[ab,jh];omega),bV]) rfl ?_;(refine run ?_;repeat intro b);refine H3 (xs:=[.agg (jV s).toArray,.bool true]) ?_ rfl;have e1:(((jV s).map EV.v).take (0+256)).drop 0=(jV s).map EV.v:=by rw[cj,an (by rw[ab,jh];omega)]
 have e2: ∀rs,iZ rs ((((jV s).map EV.v).take (0+256)).drop 0)=some (jV s):=fun rs=>by rw[e1];exact eH _
 have e3:0+256≤((jV s).map EV.v).length:=by rw[ab,jh];omega
 exact Kf (i:=T3) rfl rfl rfl rfl rfl (e2 _) e3
theorem BV (l s:List UInt8)(hs:s.length≤4611686018427387904){b:Nat}{F:Hp}(hf:e9 F (some ⟨b,0,none⟩) (jV l)):Plain Tryz.prog F 212 [S s,.pointer (some ⟨b,0,none⟩)] (S (kY (An l) s)):=by
 refine dQ (N:=22) (rv:=[.tmp 4]) Ew mixed Tryz.func212 rfl rfl rfl rfl rfl ?_;(refine run ?_;repeat intro b);refine eY (fun q:List UInt8=>kY (An l) q=kY (An l) s∧q.length≤s.length) (fun q=>⟨[(0,.v (S q)),(1,.v (.pointer (some ⟨b,0,none⟩)))],F,[],0⟩) (fun q=>q.length) s ⟨rfl,ah _⟩ (VS.eL [0,1] rfl rfl) ?_;rintro q ⟨h1,h2⟩;rcases List.eq_nil_or_concat q with rfl | ⟨q',x,rfl⟩
 ·(refine run ?_;repeat intro b);rw[←h1,Bj];rfl
 rw[List.concat_eq_append]at *;have hlen:(q'++[x]).length=q'.length+1:=by simp
 have e1:IntKind.i64.wrap ((((bl (jE (q'++[x]))).length:Nat):Int) - 1)=((q'.length:Nat):Int):=by rw[ga,hlen,wrap_i64 (by omega) (by omega)];omega
 have e2:(bl (jE (q'++[x]))).getD ((q'.length:Nat):Int).toNat 0=x:=by rw[ga,ae];simp[List.getD]
 have e3:(bl (jE (q'++[x]))).take ((q'.length:Nat):Int).toNat=q':=by rw[ga,ae];simp
 rw[za]at h1;(refine run ?_;repeat intro b);refine eE true (by rw[←aW (p:=(0:Int)<(((bl (jE (q'++[x]))).length:Nat):Int)) (by rw[ga,hlen];omega)];rfl) (fun _=>?_) (fun h=>by cases h);(refine run ?_;repeat intro b);rw[e1];refine dL rfl rfl rfl ⟨by omega,by rw[ga,hlen];omega⟩ ?_;rw[e2];(refine run ?_;repeat intro b);refine dJ _ rfl rfl rfl Qc rfl (wF l x hf) ?_;cases hx:An l x with
 | false=>
  rw[hx,aY (by decide)]at h1;(refine run ?_;repeat intro b);rw[←h1];rfl
 | true=>
  rw[hx,aZ rfl]at h1;(refine run ?_;repeat intro b);rw[e1];refine dL rfl rfl rfl ⟨by omega,by rw[ga,hlen];omega⟩ ?_;rw[e3];(refine run ?_;repeat intro b);exact fp q' ⟨h1,by omega⟩ (by rw[hlen];omega) (VS.eL [0,1] rfl rfl)
theorem DY (l s:List UInt8)(hs:s.length≤4611686018427387904){b:Nat}{F:Hp}(hf:e9 F (some ⟨b,0,none⟩) (jV l)):Plain Tryz.prog F 211 [S s,.pointer (some ⟨b,0,none⟩)] (S (nX (An l) s)):=by
 refine dQ (N:=16) (rv:=[.tmp 4]) Ew mixed Tryz.func211 rfl rfl rfl rfl rfl ?_;(refine run ?_;repeat intro b);refine eY (fun q:List UInt8=>nX (An l) q=nX (An l) s∧q.length≤s.length) (fun q=>⟨[(0,.v (S q)),(1,.v (.pointer (some ⟨b,0,none⟩)))],F,[],0⟩) (fun q=>q.length) s ⟨rfl,ah _⟩ (VS.eL [0,1] rfl rfl) ?_;rintro q ⟨h1,h2⟩;cases q with
 | nil=>
  (refine run ?_;repeat intro b);rw[←h1,AN];rfl
 | cons x q'=>
  have hlen:(x::q').length=q'.length+1:=rfl;have e3:(bl (jE (x::q'))).drop (1:Int).toNat=q':=rfl;rw[Hl]at h1;(refine run ?_;repeat intro b);refine eE true (by rw[←aW (p:=(0:Int)<(((bl (jE (x::q'))).length:Nat):Int)) (by rw[ga,hlen];omega)];rfl) (fun _=>?_) (fun h=>by cases h);(refine run ?_;repeat intro b);refine dL rfl rfl rfl ⟨by omega,by rw[ga,hlen];omega⟩ ?_;(refine run ?_;repeat intro b);refine dJ _ rfl rfl rfl Qc rfl (wF l x hf) ?_;cases hx:An l x with
  | false=>
   rw[hx,aY (by decide)]at h1;(refine run ?_;repeat intro b);rw[←h1];rfl
  | true=>
   rw[hx,aZ rfl]at h1;(refine run ?_;repeat intro b);refine dL rfl rfl rfl ⟨by omega,by rw[ga,hlen];omega⟩ ?_;rw[e3];(refine run ?_;repeat intro b);exact fp q' ⟨h1,by omega⟩ (by rw[hlen];omega) (VS.eL [0,1] rfl rfl)
theorem OW (s:List UInt8)(hs:s.length≤4611686018427387904)(F:Hp):Plain Tryz.prog F 147 [S s,S [48,49]] (S (nX (An [48,49]) (kY (An [48,49]) s))):=by
 refine dQ (N:=43) (rv:=[.tmp 4]) Ew mixed Tryz.func147 rfl rfl rfl rfl rfl ?_;(refine run ?_;repeat intro b);refine eE (decide (s=[])) ?_ (fun h=>?_) (fun h=>?_)
 ·refine dV ?_;have e:bl ⟨#[]⟩=[]:=rfl;rw[fx,ai,e];simp only[bD];exact⟨fun h=>h.elim (fun h=>aW (ar h)) (fun h=>absurd (ar h) (by simp)),fun h=>.inl (aW (ar h))⟩
 ·have h:=ar h;subst h;rw[Bj,AN];(refine run ?_;repeat intro b);rfl
 (refine run ?_;repeat intro b);refine dJ _ rfl rfl rfl VJ rfl (GM [48,49] (by decide) (by decide) F) ?_;(refine run ?_;repeat intro b);refine dL (ob:=True) (e:=.v (.agg (jV [48,49]).toArray)) rfl (by rw[nM];rfl) rfl trivial ?_;(refine run ?_;repeat intro b);refine uq (i:=T3) (cells:=(jV []).map EV.v) (n:=256) rfl (by rw[FL,fE];show some (List.map EV.v J5)=_;unfold J5;rfl) (by rw[ab,jh]) rfl fun b=>?_;refine iS ((jV [48,49]).map EV.v) rfl rfl rfl rfl (by show ((jV [48,49]).map EV.v).length=256;rw[ab,jh]) (D9 [48,49]) (by show 0+256≤((jV []).map EV.v).length;rw[ab,jh];omega) (by show ((jV []).map EV.v).take 0++(jV [48,49]).map EV.v++((jV []).map EV.v).drop (0+256)=_;rw[df,c7,cd (by rw[ab,jh];omega),bV]) rfl ?_;(refine run ?_;repeat intro b);refine fX (VS.freeze 0 [5,35] rfl (eH _) rfl rfl fun F1 hs1 hf1=>VS.id ?_);refine dJ _ rfl rfl rfl Vi rfl (BV [48,49] s hs hf1) ?_;have hl:=AK (An [48,49]) s;refine dJ _ rfl rfl rfl Vk rfl (DY [48,49] _ (by omega) hf1) ?_;(refine run ?_;repeat intro b);rfl
end
section
open Go.TR
def kB (s:List UInt8):Bool:=s.all (An [48,49])&&decide (s.length≤16)
def Ov (l:List Entry)(s:List UInt8):Int:=if dY l≠0 then dY l else if kB s=true then 0 else 3
def Se (l:List Entry)(s:List UInt8):Nat:=if Ov l s=0 then gN l s else 0
theorem xW {l:List Entry}{s:List UInt8}{e:Int}(h:Ov l s=e)(he:e≠0):Se l s=0:=by unfold Se;rw [h,aY he]
theorem nG {l:List Entry}(s:List UInt8)(h:dY l≠0):Ov l s=dY l:=aZ h
theorem FH {l:List Entry}(s:List UInt8)(h:dY l=0):Ov l s=if kB s=true then 0 else 3:=aY (by rw[h];decide)
theorem tP {l:List Entry}{s:List UInt8}(h:dY l=0)(hs:kB s=true):Ov l s=0∧Se l s=gN l s:=by
 have e:Ov l s=0:=by rw[FH s h,aZ hs]
 exact⟨e,by unfold Se;rw[aZ e]⟩
theorem Pd {l:List Entry}{s:List UInt8}(h:dY l=0)(hs:kB s=false):Ov l s=3∧Se l s=0:=by
 have e:Ov l s=3:=by rw[FH s h,aY (by rw[hs];decide)]
 exact⟨e,xW e (by decide)⟩
theorem ru:kB []=true:=by decide
theorem wW {s:List UInt8}(h:kB s=true):s.length≤16:=by
 unfold kB at h;rw[aL]at h;exact ar h.2
theorem CV (s:List UInt8):(decide (16<s.length)|| !decide (nX (An [48,49]) (kY (An [48,49]) s)=[]))= !kB s:=by
 unfold kB;rw[ai];simp only[bD,av,bz,aU,bn,MS];cases s.all (An [48,49])<;>simp<;>omega
theorem PZ {l:List Entry}{s:List UInt8}(hg: ∀x∈l,eP x.name=true)(h:s.length≤16):AR (16 - s.length) (lx l s) s=gN l s:=Dk hg _ s (by omega)
attribute [local irreducible] vc dW gz fg fD gF gJ gB fJ Plain eD eX dK VS fv fA fG jt fh IntKind.wrap
attribute [local irreducible] kB An nX kY dY gN kJ begun AR lx ka gj
set_option maxRecDepth 100000
set_option maxHeartbeats 2000000
theorem AY (l:List Entry)(s:List UInt8)(hl:l.length≤4611686018427387904)(hw: ∀x∈l,x.wf)(hs:s.length≤4611686018427387904){p:Option Addr}{c:Nat}{F:Hp}(hf:e9 F p (l.flatMap Entry.row)):Plain Tryz.prog F 88 [.slice p l.length c,S s] (pair (mu (Se l s)) (i64 (Ov l s))):=by
 refine dQ (N:=25) (rv:=[.tmp 4,.tmp 5]) eW mixed Tryz.func88 rfl rfl rfl rfl rfl ?_;(refine run ?_;repeat intro b);refine dJ _ rfl rfl rfl NK rfl (mK l hl hw hf) ?_;rcases lY l with h0 | h0 | h0
 ·obtain⟨tD,hgood,_⟩:=fP h0;rw[h0];(refine run ?_;repeat intro b);refine gm _ rfl rfl rfl rfl VF rfl rfl (fun _=>OW s hs F) ?_;(refine run ?_;repeat intro b);refine eE (!kB s) ?_ (fun h=>?_) (fun h=>?_)
  ·refine dV ?_;rw[fx,←CV];have e1:decide ((16:Int)<(((bl (jE s)).length:Nat):Int))=decide (16<s.length):=by rw[aV,ga];omega
   rw[e1];rfl
  ·rw[bz]at h;obtain⟨e1,e2⟩:=Pd h0 h;rw[e1,e2];(refine run ?_;repeat intro b);rfl
  rw[Bool.not_eq_false']at h;obtain⟨e1,e2⟩:=tP (s:=s) h0 h;rw[e1,e2];have h16:=wW h;(refine run ?_;repeat intro b);refine fm rfl rfl rfl Nf rfl (x8 l s tD hw hf) ?_;rintro _ F1 hF1 ⟨p1,c1,rfl,hf1⟩;(refine run ?_;repeat intro b);have hul:=zd l s;refine dJ _ rfl rfl rfl NO rfl (J9 (16 - s.length) (lx l s) s (by omega) (by omega) (fun x hx=>hw x (zN hx)) hf1) ?_;rw[PZ (fun x hx=>(hgood x hx).1) h16];(refine run ?_;repeat intro b);rfl
 ·rw[nG s (by rw[h0];decide),xW (nG s (by rw[h0];decide)) (by rw[h0];decide),h0];(refine run ?_;repeat intro b);rfl
 rw[nG s (by rw[h0];decide),xW (nG s (by rw[h0];decide)) (by rw[h0];decide),h0];(refine run ?_;repeat intro b);rfl
theorem ry (l:List Entry)(hl:l.length≤4611686018427387904)(hw: ∀x∈l,x.wf){p:Option Addr}{c:Nat}{F:Hp}(hf:e9 F p (l.flatMap Entry.row)):Plain Tryz.prog F 34 [.slice p l.length c] (pair (mu (Se l [])) (i64 (Ov l []))):=by
 refine dQ (N:=8) (rv:=[.tmp 2,.tmp 3]) eW mixed Tryz.func34 rfl rfl rfl rfl rfl ?_;(refine run ?_;repeat intro b);refine dJ _ rfl rfl rfl Ux rfl (AY l [] hl hw (by decide) hf) ?_;(refine run ?_;repeat intro b);rfl
theorem Aq (l:List Entry)(s:List UInt8)(hl:l.length≤24)(hw: ∀x∈l,x.wf){p:Option Addr}{c:Nat}{F:Hp}(hf:e9 F p (l.flatMap Entry.row)):Plain Tryz.prog F 132 [.slice p l.length c,S s] (mu (gN l s)):=by
 refine dQ (N:=17) (rv:=[.tmp 4]) eW mixed Tryz.func132 rfl rfl rfl rfl rfl ?_;(refine run ?_;repeat intro b);refine fm rfl rfl rfl Qz rfl (A2 l hl hw hf) ?_;rintro _ F1 hF1 ⟨b0,es,clock,rfl,hb,hM⟩;(refine run ?_;repeat intro b);refine py (kJ l (begun l)) s qy nB rfl rfl rN rfl hb hM ?_;rw[aZ rfl];cases hg:begun l s with
 | true=>
  rw[pM hg];(refine run ?_;repeat intro b);rfl
 | false=>
  rw[tK hg,pK hg];(refine run ?_;repeat intro b);refine dJ _ rfl rfl rfl vW rfl (nz F1) ?_;(refine run ?_;repeat intro b);rfl
end
section
open Go.TR
theorem lC {bs:List Bk}{l:List (List Entry)}(h:bs.map (·.2.1)=l):bs.length=l.length:=by rw[←h,ab]
theorem nW {bs:List Bk}{l:List (List Entry)}(h:bs.map (·.2.1)=l){k:Nat}(hk:k<l.length): ∃s:Bk,bs[k]? =some s∧s.2.1=l[k]∧s∈bs:=by
 have hl:=lC h;have hk':k<bs.length:=by omega
 refine⟨bs[k],ao hk',?_,aj hk'⟩;subst h;simp
theorem m8 {F:Hp}{p:Option Addr}{bs:List Bk}(h:e9 F p (bs.map Bk.v)){k:Nat}{s:Bk}(hk:bs[k]? =some s):gi F (iw p k)=some s.v:=h k _ (by rw[aI,hk];rfl)
theorem EN {hs:List Head}{bs:List (List Entry)}{k:Nat}(h1:k<hs.length)(h2:k<bs.length):iu (hs.drop k) (bs.drop k)=if dY bs[k]≠0 then dY bs[k] else if gN bs[k] []≠hs[k].root then 8 else iu (hs.drop (k+1)) (bs.drop (k+1)):=by
 rw[aO h1,aO h2];rfl
theorem Gy (hs:List Head):iu hs []=0:=by cases hs<;>rfl
theorem vJ {c:eI}(h:0<c.ez.length):gK c=c.ez[c.ez.length - 1]:=by
 unfold gK;rw[List.getLastD_eq_getLast?,List.getLast?_eq_getElem?,ao (by omega)];rfl
attribute [local irreducible] vc dW gz fg fD gF gJ gB fJ Plain eD eX dK VS fv fA fG jt fh IntKind.wrap
attribute [local irreducible] dY gN iu gK fL
set_option maxRecDepth 100000
set_option maxHeartbeats 4000000
theorem tE (n m:Int)(F:Hp):Plain Tryz.prog F 33 [i64 n,i64 m] (.bool (decide (1≤n)&&decide (n≤m))):=by
 refine dQ (N:=12) (rv:=[.tmp 4]) eW mixed Tryz.func33 rfl rfl rfl rfl rfl ?_;(refine run ?_;repeat intro b);rw[fK];rfl
theorem vR (c:eI)(a:ji)(F:Hp):Plain Tryz.prog F 38 [c.v a] (.bool (gu c)):=by
 refine dQ (N:=12) (rv:=[.tmp 2]) eW mixed Tryz.func38 rfl rfl rfl rfl rfl ?_;(refine run ?_;repeat intro b);have e:lS (((c.dS.length:Nat):Int)==40) true (c.now==1000000000)=gu c:=by
  rw[fx,ai];unfold gu;simp;omega
 rw[e];rfl
theorem Ih (c:eI)(a:ji)(bs:List Bk)(h0:0<c.ez.length)(hn:c.ez.length≤8796093022208)(hb:bs.map (·.2.1)=c.ez){F:Hp}(hf:e9 F a.b (bs.map Bk.v)): ∃s:Bk,s∈bs∧s.2.1=gK c∧Plain Tryz.prog F 44 [c.v a] s.v:=by
 obtain⟨s,h1,h2,h3⟩:=nW hb (k:=c.ez.length - 1) (by omega);refine⟨s,h3,by rw[h2,vJ h0],?_⟩;have hc:=m8 hf h1;have ew:IntKind.i64.wrap (((c.ez.length:Nat):Int) - 1)=((c.ez.length - 1:Nat):Int):=by rw[wrap_i64 (by omega) (by omega)];omega
 refine dQ (N:=11) (rv:=[.tmp 2]) eW mixed Tryz.func44 rfl rfl rfl rfl rfl ?_;(refine run ?_;repeat intro b);rw[ew];refine dL rfl rfl rfl ⟨by omega,by omega,dR hf (j:=c.ez.length - 1) (by rw[ab,lC hb];omega)⟩ ?_;refine fw s.v rfl rfl rfl rfl (by rw[ae,aA];exact hc) ?_;(refine run ?_;repeat intro b);rfl
theorem LN (c:eI)(a:ji)(hw:c.wf)(h0:0<c.dS.length){F:Hp}(ha:c.at F a):Plain Tryz.prog F 91 [c.v a] (i64 (jG c)):=by
 obtain⟨bs,hb,wZ,hbs⟩:=ha.b;have hhl:=hw.hlen;have hlh:=vG h0;have eH0:(c.dS.getD 0 Head.none).dZ=c.dS[0].dZ:=by simp[List.getD,h0]
 have eF:ny c=(!(c.dS[0].dZ==0)||(decide (c.ez.length≠c.dS.length)||decide (c.now<c.dS[c.dS.length - 1].at_))):=by
  unfold ny;rw[eH0,hlh,Bool.or_assoc];congr 1;rw[ai];simp
 obtain⟨o1,o2⟩:=fa eZ (by decide) ha.h 0 h0;obtain⟨o3,o4⟩:=fa eZ (by decide) ha.h (c.dS.length - 1) (by omega);have ew:IntKind.i64.wrap (((c.dS.length:Nat):Int) - 1)=((c.dS.length - 1:Nat):Int):=by rw[wrap_i64 (by omega) (by omega)];omega
 have hB:jG c=if ny c=true then 3 else iu c.dS c.ez:=rfl
 rw[eF]at hB;generalize c.dS[0]=ha0 at *;generalize c.dS[c.dS.length - 1]=hl0 at *;refine dQ (N:=63) (rv:=[.tmp 2]) eW mixed Tryz.func91 rfl rfl rfl rfl rfl ?_;(refine run ?_;repeat intro b);refine fO (by kernel_rfl) ?_;(refine run ?_;repeat intro b);refine dL rfl rfl rfl ⟨by omega,by omega,dR ha.h (j:=0) (by rw[dO eZ];omega)⟩ ?_;(refine run ?_;repeat intro b);refine dL rfl rfl rfl o1 ?_;(refine run ?_;repeat intro b);refine fw (i64 ha0.dZ) rfl rfl rfl rfl (o2 0 (by decide)) ?_;(refine run ?_;repeat intro b);rw[ew];refine iz rfl rfl rfl rfl rfl (fun _=>⟨by omega,by omega,dR ha.h (j:=(c.dS.length - 1) * 4) (by rw[dO eZ];omega)⟩) ?_;(refine run ?_;repeat intro b);refine iz rfl rfl rfl rfl rfl (fun _=>by rw[ae];exact o3) ?_;(refine run ?_;repeat intro b);refine su (i64 hl0.at_) rfl rfl rfl rfl rfl rfl (fun _=>by rw[ae];exact o4 3 (by decide)) ?_;(refine run ?_;repeat intro b);refine eE (ny c) ?_ (fun h=>?_) (fun h=>?_)
 ·refine dV ?_;rw[fx,fx,eF,Bool.or_assoc];congr 1;congr 1;rw[ai];simp;omega
 ·rw[eF]at h;rw[aZ h]at hB;rw[hB];(refine run ?_;repeat intro b);rfl
 rw[eF]at h;rw[aY (by rw[h];decide)]at hB;have hlen:c.ez.length=c.dS.length:=by
  simp only[aQ,aU,ne_eq,bE]at h;exact h.2.1
 rw[hB];have h64:=hw.hlen;(refine run ?_;repeat intro b);refine eY (fun k:Nat=>k≤c.ez.length∧iu (c.dS.drop k) (c.ez.drop k)=iu c.dS c.ez) (fun k=>⟨[(1,.loc 0 0),(37,.v (.slice a.b c.ez.length a.cb)),(38,.v (i64 (c.ez.length:Nat))),(39,.v (i64 (k:Nat)))],F,[(0,⟨some b,[.v (i64 c.queue.most),.v (.slice a.w c.queue.wait.length a.cw),.v (i64 c.batch),.v (i64 c.every),.v (i64 c.now),.v (.slice a.h c.dS.length a.ch),.v (.slice a.b c.ez.length a.cb)],28,7⟩)],1⟩) (fun k=>c.ez.length - k) 0 ⟨az _,rfl⟩ (VS.eL [1,37,38,39] rfl rfl) ?_;rintro k ⟨hk,hr⟩;by_cases hlt:k<c.ez.length
 ·have hst:=EN (hs:=c.dS) (bs:=c.ez) (k:=k) (by omega) hlt;rw[hr]at hst;obtain⟨⟨ps,ls,cs⟩,k1,k2,k3⟩:=nW hb hlt;have kc:=m8 wZ k1;have hat:=hbs _ k3;have hwl:=hw.ez c.ez[k] (aj hlt);obtain⟨o5,o6⟩:=fa eZ (by decide) ha.h k (by omega);simp only at k2 hat;rw[←k2]at hst hwl;generalize c.dS[k]'(by omega)=hk0 at *;(refine run ?_;repeat intro b);refine gw rfl (by omega) ?_;(refine run ?_;repeat intro b);refine dL rfl rfl rfl ⟨by omega,by omega,dR wZ (j:=k) (by rw[ab,lC hb];omega)⟩ ?_;refine fw (Bk.v (ps,ls,cs)) rfl rfl rfl rfl (by rw[ae,aA];exact kc) ?_;(refine run ?_;repeat intro b);refine dJ _ rfl rfl rfl RB rfl (ry ls (by omega) hwl.2 hat.2) ?_;rcases lY ls with f0 | f0 | f0
  ·obtain⟨r1,r2⟩:=tP f0 ru;rw[f0,aY (by decide)]at hst;rw[r1,r2];(refine run ?_;repeat intro b);refine dL rfl rfl rfl ⟨by omega,by omega,dR ha.h (j:=k * 4) (by rw[dO eZ];omega)⟩ ?_;(refine run ?_;repeat intro b);refine dL rfl rfl rfl (by rw[ae];exact o5) ?_;(refine run ?_;repeat intro b);refine fw (u64 (hk0.root:Nat)) rfl rfl rfl rfl (by rw[ae];exact o6 1 (by decide)) ?_;(refine run ?_;repeat intro b);refine eE (decide (gN ls []≠hk0.root)) ?_ (fun g=>?_) (fun g=>?_)
   ·refine dV ?_;rw[ai];simp;omega
   ·rw[aZ (ar g)]at hst;rw[hst];(refine run ?_;repeat intro b);rfl
   rw[aY (au g)]at hst;(refine run ?_;repeat intro b);rw[dT (by omega)];exact fp (k+1) ⟨hlt,hst.symm⟩ (by omega) (VS.eL [1,37,38,39] rfl rfl)
  ·have r1:=nG (l:=ls) [] (by rw[f0];decide);have r2:=xW r1 (by rw[f0];decide);rw[f0,aZ (by decide)]at hst;rw[hst,r1,r2,f0];(refine run ?_;repeat intro b);rfl
  have r1:=nG (l:=ls) [] (by rw[f0];decide);have r2:=xW r1 (by rw[f0];decide);rw[f0,aZ (by decide)]at hst;rw[hst,r1,r2,f0];(refine run ?_;repeat intro b);rfl
 have hge:k=c.ez.length:=by omega
 have hz:iu c.dS c.ez=0:=by
  rw[←hr,hge,cg,Gy]
 rw[hz];(refine run ?_;repeat intro b);refine gy rfl (by omega) ?_;(refine run ?_;repeat intro b);rfl
end
end Go.Proofs.YthbnddgjkonkdaaGreatDoor
