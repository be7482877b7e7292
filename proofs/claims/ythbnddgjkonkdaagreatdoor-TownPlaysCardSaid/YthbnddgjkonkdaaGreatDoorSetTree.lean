/- A part of the proof. -/
import Derived.Test.YthbnddgjkonkdaaGreatDoorSetIdx
import Derived.Test.YthbnddgjkonkdaaGreatDoorSetFwL
set_option linter.unusedVariables false
set_option linter.unusedSimpArgs false
namespace Go.Proofs.YthbnddgjkonkdaaGreatDoor
section
open Go.TR
theorem Iy {α:Type}{f g:α→Bool}: ∀{l:List α},(∀x∈l,f x=g x)→l.any f=l.any g
 | [],_=>rfl
 | a::l,h=>by
  rw[List.any_cons,List.any_cons,h a (by simp),Iy fun x hx=>h x (by simp[hx])]
theorem xt {F:Hp}{b:Nat}{x:Value}(h:eY F (some ⟨b,0,none⟩) [x]):gb F (some ⟨b,0,none⟩)=some x:=by
 have:=h 0 x rfl;simpa [im,Addr.add] using this
theorem Xz (l:List Value){n:Nat}: ∀e∈l.map EV.v,EV.lt n e:=fun e he=>by
 obtain⟨x,_,rfl⟩:=aG.1 he;trivial
theorem E9 {α:Type}{f:α→Bool}{l:List α}{k:Nat}(h:k<l.length)(h0:(l.take k).any f=false)(h1:f l[k]=false):(l.take (k+1)).any f=false:=by
 rw[al h,bI,h0];simp[h1]
theorem Im {α:Type}{f:α→Bool}{l:List α}{k:Nat}(h:k<l.length)(h1:f l[k]=true):l.any f=true:=bK.2 ⟨l[k],aj h,h1⟩
attribute [local irreducible] ahead kN ej jS eL dV gg
attribute [local irreducible] vc dT gx fc fA gC gG gw fG Plain eu eR dH VS fq fx fD ju fe IntKind.wrap
set_option maxRecDepth 100000
theorem Du (q:Entry→Bool)(g:Nat)(lb:Array Value)(hb:dH Tryz.prog g)(l:List Entry){p:Option Addr}{c:Nat}{F:Hp}(hf:eY F p (l.flatMap Entry.row))(hl:l.length≤4611686018427387904)(hp: ∀x∈l,Plain Tryz.prog F g (.agg (Entry.row x).toArray::lb.toList) (.bool (q x))):
  Plain Tryz.prog F 267 [.slice p l.length c,.func (.func g) #[] lb] (i64 (ov q l)):=by
 refine dN (N:=19) (rv:=[.tmp 4]) eP mixed Tryz.func267 rfl rfl rfl rfl rfl ?_;(refine run ?_;repeat intro b);refine eU (fun k:Nat=>k≤l.length∧(l.take k).any q=false) (fun k=>⟨[(0,.v (.slice p l.length c)),(1,.v (.func (.func g) #[] lb)),(7,.v (i64 (l.length:Nat))),(8,.v (i64 (k:Nat)))],F,[],0⟩) (fun k=>l.length - k) 0 ⟨az _,rfl⟩ (VS.eH [0,1,7,8] rfl rfl) ?_;rintro k ⟨hk,hany⟩;(refine run ?_;repeat intro b);refine ez _ rfl (fun h=>?_) (fun h=>?_)
 ·have hlt:k<l.length:=by simpa using h
  obtain⟨o1,o2⟩:=eZ eI (by decide) hf k hlt;(refine run ?_;repeat intro b);refine dI rfl rfl rfl ⟨by omega,by omega,dO hf (j:=k * 2) (by rw[dL eI];omega)⟩ ?_;refine fy (Entry.row l[k]) rfl rfl rfl rfl rfl (by rw[ae];exact o1) (by rw[ae];exact o2) ?_;(refine run ?_;repeat intro b);refine dG _ rfl rfl (by rw[fB];rfl) hb rfl (hp l[k] (aj hlt)) ?_;(refine run ?_;repeat intro b);refine ez _ rfl (fun h2=>?_) (fun h2=>?_)
  ·(refine run ?_;repeat intro b);rw[lg hlt hany h2];rfl
  (refine run ?_;repeat intro b);rw[dQ (by omega)];refine fj (k+1) ⟨hlt,?_⟩ (by omega) (VS.eH [0,1,7,8] rfl rfl);rw[al hlt,bI,hany];simp[h2]
 have hge:k=l.length:=by
  have: ¬k<l.length:=by simpa using h
  omega
 subst hge;rw[aD]at hany;(refine run ?_;repeat intro b);rw[lv hany];rfl
theorem Ll (q:Entry→Bool)(g:Nat)(lb:Array Value)(hb:dH Tryz.prog g)(l:List Entry){p:Option Addr}{c:Nat}{F:Hp}(hf:eY F p (l.flatMap Entry.row))(hl:l.length≤4611686018427387904)(hp: ∀x∈l,Plain Tryz.prog F g (.agg (Entry.row x).toArray::lb.toList) (.bool (q x))):
  Plain Tryz.prog F 298 [.slice p l.length c,.func (.func g) #[] lb] (.bool (l.any q)):=by
 refine dN (N:=9) (rv:=[.tmp 4]) eP mixed Tryz.func298 rfl rfl rfl rfl rfl ?_;(refine run ?_;repeat intro b);refine dG _ rfl rfl rfl Ni rfl (Du q g lb hb l hf hl hp) ?_;(refine run ?_;repeat intro b);rw[og];rfl
theorem Pu (q:Nat→Bool)(g:Nat)(lb:Array Value)(hb:dH Tryz.prog g)(l:List Nat){p:Option Addr}{c:Nat}{F:Hp}(hf:eY F p (l.map mu))(hl:l.length≤4611686018427387904)(hp: ∀x∈l,Plain Tryz.prog F g (mu x::lb.toList) (.bool (q x))):
  Plain Tryz.prog F 316 [.slice p l.length c,.func (.func g) #[] lb] (i64 (ov q l)):=by
 refine dN (N:=19) (rv:=[.tmp 4]) eP mixed Tryz.func316 rfl rfl rfl rfl rfl ?_;(refine run ?_;repeat intro b);refine eU (fun k:Nat=>k≤l.length∧(l.take k).any q=false) (fun k=>⟨[(0,.v (.slice p l.length c)),(1,.v (.func (.func g) #[] lb)),(7,.v (i64 (l.length:Nat))),(8,.v (i64 (k:Nat)))],F,[],0⟩) (fun k=>l.length - k) 0 ⟨az _,rfl⟩ (VS.eH [0,1,7,8] rfl rfl) ?_;rintro k ⟨hk,hany⟩;(refine run ?_;repeat intro b);refine ez _ rfl (fun h=>?_) (fun h=>?_)
 ·have hlt:k<l.length:=by simpa using h
  (refine run ?_;repeat intro b);refine dI rfl rfl rfl ⟨by omega,by omega,dO hf (j:=k) (by simpa using hlt)⟩ ?_;refine fr (mu l[k]) rfl rfl rfl rfl (by have:=gQ hf (j:=k) (by simpa using hlt);simpa using this) ?_;(refine run ?_;repeat intro b);refine dG _ rfl rfl (by rw[fB];rfl) hb rfl (hp l[k] (aj hlt)) ?_;(refine run ?_;repeat intro b);refine ez _ rfl (fun h2=>?_) (fun h2=>?_)
  ·(refine run ?_;repeat intro b);rw[lg hlt hany h2];rfl
  (refine run ?_;repeat intro b);rw[dQ (by omega)];refine fj (k+1) ⟨hlt,?_⟩ (by omega) (VS.eH [0,1,7,8] rfl rfl);rw[al hlt,bI,hany];simp[h2]
 have hge:k=l.length:=by
  have: ¬k<l.length:=by simpa using h
  omega
 subst hge;rw[aD]at hany;(refine run ?_;repeat intro b);rw[lv hany];rfl
theorem OW (q:Nat→Bool)(g:Nat)(lb:Array Value)(hb:dH Tryz.prog g)(l:List Nat){p:Option Addr}{c:Nat}{F:Hp}(hf:eY F p (l.map mu))(hl:l.length≤4611686018427387904)(hp: ∀x∈l,Plain Tryz.prog F g (mu x::lb.toList) (.bool (q x))):
  Plain Tryz.prog F 300 [.slice p l.length c,.func (.func g) #[] lb] (.bool (l.any q)):=by
 refine dN (N:=9) (rv:=[.tmp 4]) eP mixed Tryz.func300 rfl rfl rfl rfl rfl ?_;(refine run ?_;repeat intro b);refine dG _ rfl rfl rfl UQ rfl (Pu q g lb hb l hf hl hp) ?_;(refine run ?_;repeat intro b);rw[og];rfl
theorem Kq (x:Entry)(w:List UInt8)(hw:x.wf){q:Option Addr}{F:Hp}(hq:gb F q=some (S w)):Plain Tryz.prog F 299 [x.v,.pointer q] (.bool (!decide (jS x.name=w))):=by
 refine dN (N:=9) (rv:=[.tmp 3]) eP mixed Tryz.func299 rfl rfl rfl rfl rfl ?_;(refine run ?_;repeat intro b);refine fM (by kernel_rfl) ?_;(refine run ?_;repeat intro b);refine dG _ rfl rfl rfl I6 rfl (oJ x.name hw.name F) ?_;(refine run ?_;repeat intro b);refine fr (S w) rfl rfl rfl rfl hq ?_;(refine run ?_;repeat intro b);simp only[gE,fX];congr
theorem Jm (m:Nat)(F:Hp):Plain Tryz.prog F 301 [mu m] (.bool (decide (MM≤m))):=by
 refine dN (N:=5) (rv:=[.tmp 2]) eP mixed Tryz.func301 rfl rfl rfl rfl rfl ?_;(refine run ?_;repeat intro b);have e:decide ((2305843009213693951:Int)≤(m:Int))=decide (MM≤m):=by
  rw[ai,av,av];show (2305843009213693951:Int)≤(m:Int) ↔ 2305843009213693951≤m;omega
 rw[e];rfl
set_option maxHeartbeats 1000000 in
theorem zY (p:jn)(a:Lay)(hw:p.wf){F:Hp}(hf:p.at F a):Plain Tryz.prog F 270 [p.v a] (i64 (fS p)):=by
 obtain⟨h1,h2,h3,h4,h5⟩:=hw;obtain⟨f1,f2⟩:=hf;refine dN (N:=33) (rv:=[.tmp 2]) eP mixed Tryz.func270 rfl rfl rfl rfl rfl ?_;(refine run ?_;repeat intro b);refine dG _ rfl rfl rfl wB rfl (oK p.name h1 F) ?_;unfold fS;cases hg:eL p.name with
 | false=>
  (refine run ?_;repeat intro b);rfl
 | true=>
  rw[aZ rfl];(refine run ?_;repeat intro b);refine dG _ rfl rfl rfl Ma rfl (mw p.fZ h2 h3 f1) ?_;(refine run ?_;repeat intro b);refine ez (decide (dV p.fZ≠0)) ?_ (fun h=>?_) (fun h=>?_)
  ·refine dS ?_;rw[ai];simp
  ·rw[aZ (ar h)];(refine run ?_;repeat intro b);rfl
  rw[aY (au h)];obtain⟨_,hgood,_⟩:=fL (by simpa using h);have hany:(p.fZ.any fun x=> !decide (jS x.name=jS p.name))=p.fZ.any fun x=> !decide (ej x.name=ej p.name):=by
   refine Iy fun x hx=>?_;unfold jS;rw[aZ (hgood x hx).1,aZ hg]
  rw[←hany];(refine run ?_;repeat intro b);refine dG _ rfl rfl rfl I6 rfl (oJ p.name h1 F) ?_;(refine run ?_;repeat intro b);refine fT (VS.freeze 1 [1,19,20] rfl rfl rfl rfl fun F1 hs1 hf1=>VS.id ?_);refine dG _ rfl rfl rfl Vg rfl (Ll (fun x=> !decide (jS x.name=jS p.name)) _ #[_] Vd p.fZ (dZ hs1 f1) h2 (fun x hx=>Kq x _ (h3 x hx) (xt hf1))) ?_;(refine run ?_;repeat intro b);refine gi _ rfl rfl rfl rfl Tf rfl rfl (fun _=>OW (fun m=>decide (MM≤m)) _ #[] Tm p.fC (dZ hs1 f2) h4 (fun x _=>Jm x F1)) ?_;(refine run ?_;repeat intro b);generalize (p.fZ.any fun x=> !decide (jS x.name=jS p.name))=x;generalize (p.fC.any fun m=>decide (MM≤m))=y;refine ez (x||decide (p.fC.length≠16)||y) ?_ (fun h=>?_) (fun h=>?_)
  ·refine dS ?_;have e:(((p.fC.length:Nat):Int) != 16)=decide (p.fC.length≠16):=by
    rw[ai];simp;omega
   rw[fu,fu,e]
  ·(refine run ?_;repeat intro b);by_cases hs:p.fC.length=16<;>cases x<;>cases y<;>simp_all [gE]
  (refine run ?_;repeat intro b);by_cases hs:p.fC.length=16<;>cases x<;>cases y<;>simp_all [gE]
set_option maxHeartbeats 1000000 in
theorem Aq (p:jn)(a:Lay)(hw:p.wf){F:Hp}(hf:p.at F a):Plain Tryz.prog F 186 [p.v a] (i64 (fS p)):=by
 obtain⟨h1,h2,h3,h4,h5⟩:=hw;obtain⟨f1,f2⟩:=hf;refine dN (N:=47) (rv:=[.tmp 2]) eP mixed Tryz.func186 rfl rfl rfl rfl rfl ?_;(refine run ?_;repeat intro b);refine dG _ rfl rfl rfl ON rfl (oC p.name h1 F) ?_;unfold fS;cases hg:eL p.name with
 | false=>
  (refine run ?_;repeat intro b);rfl
 | true=>
  rw[aZ rfl];(refine run ?_;repeat intro b);refine dG _ rfl rfl rfl Wl rfl (CU p.fZ h2 h3 f1) ?_;(refine run ?_;repeat intro b);refine ez (decide (dV p.fZ≠0)) ?_ (fun h=>?_) (fun h=>?_)
  ·refine dS ?_;rw[ai];simp
  ·rw[aZ (ar h)];(refine run ?_;repeat intro b);rfl
  rw[aY (au h)];(refine run ?_;repeat intro b);refine eU (fun k:Nat=>k≤p.fZ.length∧((p.fZ.take k).any fun x=> !decide (ej x.name=ej p.name))=false) (fun k=>⟨[(1,.loc 0 0),(19,.v (.slice a.e p.fZ.length a.ce)),(20,.v (i64 (p.fZ.length:Nat))),(21,.v (i64 (k:Nat)))],F,[(0,⟨some b,[.v (S p.name),.v (.slice a.e p.fZ.length a.ce),.v (.slice a.s p.fC.length a.cs)],45,3⟩)],1⟩) (fun k=>p.fZ.length - k) 0 ⟨az _,rfl⟩ (VS.eH [1,19,20,21] rfl rfl) ?_;rintro k ⟨hk,hu⟩;by_cases hlt:k<p.fZ.length
  ·obtain⟨o1,o2⟩:=eZ eI (by decide) f1 k hlt;have wx:=h3 p.fZ[k] (aj hlt);have hst:=E9 hlt hu;have hit:=Im (f:=fun x:Entry=> !decide (ej x.name=ej p.name)) hlt;generalize p.fZ[k]=x at o2 wx hst hit;(refine run ?_;repeat intro b);refine gm rfl (by omega) ?_;(refine run ?_;repeat intro b);refine dI rfl rfl rfl ⟨by omega,by omega,dO f1 (j:=k * 2) (by rw[dL eI];omega)⟩ ?_;refine fy x.row rfl rfl rfl rfl rfl (by rw[ae];exact o1) (by rw[ae];exact o2) ?_;(refine run ?_;repeat intro b);refine fM (by kernel_rfl) ?_;(refine run ?_;repeat intro b);refine dG _ rfl rfl rfl wT rfl (kW x.name wx.name F) ?_;(refine run ?_;repeat intro b);refine dG _ rfl rfl rfl wT rfl (kW p.name h1 F) ?_;(refine run ?_;repeat intro b);refine ez (!decide (ej x.name=ej p.name)) rfl (fun h=>?_) (fun h=>?_)
   ·rw[aZ (hit h)];(refine run ?_;repeat intro b);rfl
   (refine run ?_;repeat intro b);rw[dQ (by omega)];exact iH (k+1) [1] [1,19,20,21] ⟨hlt,hst h⟩ (by omega) rfl rfl rfl rfl ⟨⟨Nat.zero_lt_succ _,fun e he=>Xz [_,_,_] e he⟩,trivial⟩ rfl
  have hge:k=p.fZ.length:=by omega
  subst hge;rw[aD]at hu;rw[aY (by rw[hu];decide)];(refine run ?_;repeat intro b);refine gu rfl (by omega) ?_;(refine run ?_;repeat intro b);refine ez (decide (p.fC.length≠16)) ?_ (fun h=>?_) (fun h=>?_)
  ·refine dS ?_;rw[ai];simp;omega
  ·rw[aZ (ar h)];(refine run ?_;repeat intro b);rfl
  rw[aY (au h)];(refine run ?_;repeat intro b);refine eU (fun k:Nat=>k≤p.fC.length∧((p.fC.take k).any fun m=>decide (MM≤m))=false) (fun k=>⟨[(38,.v (.slice a.s p.fC.length a.cs)),(39,.v (i64 (p.fC.length:Nat))),(40,.v (i64 (k:Nat)))],F,[],1⟩) (fun k=>p.fC.length - k) 0 ⟨az _,rfl⟩ (VS.iy [0] rfl (VS.eH [38,39,40] rfl rfl)) ?_;rintro k ⟨hk,hu2⟩;by_cases hlt:k<p.fC.length
  ·have g:=gQ f2 (j:=k) (by rw[ab];exact hlt);rw[cD]at g;have hst:=E9 hlt hu2;have hit:=Im (f:=fun m:Nat=>decide (MM≤m)) hlt;generalize p.fC[k]=m at g hst hit;(refine run ?_;repeat intro b);refine gm rfl (by omega) ?_;(refine run ?_;repeat intro b);refine dI rfl rfl rfl ⟨by omega,by omega,dO f2 (j:=k) (by rw[ab];exact hlt)⟩ ?_;refine fr (mu m) rfl rfl rfl rfl (by rw[ae,aA];exact g) ?_;(refine run ?_;repeat intro b);refine ez (decide (MM≤m)) ?_ (fun h=>?_) (fun h=>?_)
   ·refine dS ?_;rw[ai,av,av];show (2305843009213693951:Int)≤(m:Int) ↔ 2305843009213693951≤m;omega
   ·rw[aZ (hit h)];(refine run ?_;repeat intro b);rfl
   (refine run ?_;repeat intro b);rw[dQ (by omega)];exact fj (k+1) ⟨hlt,hst h⟩ (by omega) (VS.eH [38,39,40] rfl rfl)
  have hge:k=p.fC.length:=by omega
  subst hge;rw[aD]at hu2;rw[aY (by rw[hu2];decide)];(refine run ?_;repeat intro b);refine gu rfl (by omega) ?_;(refine run ?_;repeat intro b);rfl
end
section
open Go.TR
def lI (l:List Entry)(n:List UInt8):Nat:=l.findIdx fun x=> !ahead x.name n
def lG (l:List Entry)(n:List UInt8):Bool:=l.any fun x=>decide (x.name=n)
def gF (l:List Entry)(n:List UInt8):Option (List UInt8):=(l.find? fun x=>decide (x.name=n)).map Entry.value
def nR (l:List Entry)(n:List UInt8):Nat:=if lG l n=true then lI l n+1 else lI l n
def ko (l:List Entry)(n v:List UInt8):List Entry:=l.take (lI l n)++⟨n,v⟩::l.drop (nR l n)
def IM (l:List Entry)(n:List UInt8):List Entry:=l.filter fun x=> !decide (x.name=n)
def oh (l:List Entry):Prop:=List.Pairwise (fun a b=>ahead a.name b.name=true) l
theorem qz {l:List Entry}(h:dV l=0):oh l:=(yg (fL h).2.2).2
theorem H0 (l:List Entry)(n:List UInt8):lI l n≤l.length:=List.findIdx_le_length
theorem FM {l:List Entry}{n:List UInt8}{k:Nat}(h:k<lI l n):ahead (l[k]'(Nat.lt_of_lt_of_le h (H0 l n))).name n=true:=by
 have:=List.not_of_lt_findIdx h;simpa using this
theorem Ic {l:List Entry}(hb:oh l){n:List UInt8}{k:Nat}(h:lI l n≤k)(hk:k<l.length):ahead l[k].name n=false:=by
 have h0:lI l n<l.length:=by omega
 have h1:ahead l[lI l n].name n=false:=by
  have:=List.findIdx_getElem (p:=fun x:Entry=> !ahead x.name n) (xs:=l) (w:=h0);simp only[bz]at this;exact this
 by_cases he:lI l n=k
 ·subst he;exact h1
 have h2:=c7.1 hb (lI l n) k h0 hk (by omega);by_cases h3:ahead l[k].name n=true
 ·rw[ll h2 h3]at h1;cases h1
 simpa using h3
theorem qb {l:List Entry}(hb:oh l)(n:List UInt8):lG l n=true ↔ ∃h:lI l n<l.length,l[lI l n].name=n:=by
 unfold lG;rw[bK];constructor
 ·rintro⟨x,hx,hn⟩;have hn:=ar hn;obtain⟨k,hk,rfl⟩:=cE hx;have h1: ¬k<lI l n:=fun h=>by
   have:=FM h;rw[hn,jl]at this;cases this
  have h0:lI l n<l.length:=by omega
  refine⟨h0,?_⟩;by_cases he:lI l n=k
  ·subst he;exact hn
  have h2:=c7.1 hb (lI l n) k h0 hk (by omega);rw[hn,Ic hb (ah _) h0]at h2;cases h2
 rintro⟨h,hn⟩;exact⟨_,aj h,aW hn⟩
theorem Jp {l:List Entry}(hb:oh l)(n:List UInt8):gF l n=if lG l n=true then some (l.getD (lI l n) ⟨[],[]⟩).value else none:=by
 unfold gF;by_cases h:lG l n=true
 ·rw[aZ h];obtain⟨h0,hn⟩:=(qb hb n).1 h;have e:(l.find? fun x=>decide (x.name=n))=some l[lI l n]:=by
   rw[List.find?_eq_some_iff_getElem];refine⟨by simpa using hn,lI l n,h0,rfl,fun j hj=>?_⟩;have:=FM hj;have hne:l[j].name≠n:=fun e=>by rw[e,jl]at this;cases this
   simp[hne]
  rw[e,aE,ao h0];rfl
 rw[aY h];have e:(l.find? fun x=>decide (x.name=n))=none:=by
  rw[List.find?_eq_none];intro x hx hn;exact h (bK.2 ⟨x,hx,hn⟩)
 rw[e];rfl
theorem GW (l:List Entry)(n:List UInt8):(gF l n).isSome=lG l n:=by
 unfold gF lG;rw[Option.isSome_map,ai,List.find?_isSome,bK]
theorem JN {l:List Entry}(hb:oh l){i j:Nat}(hi:i<l.length)(hj:j<l.length)(h:l[i].name=l[j].name):i=j:=by
 rcases Nat.lt_trichotomy i j with h1 | h1 | h1
 ·have:=c7.1 hb i j hi hj h1;rw[h,jl]at this;cases this
 ·exact h1
 have:=c7.1 hb j i hj hi h1;rw[h,jl]at this;cases this
theorem HA {l:List Entry}(hb:oh l){x:Entry}(hx:x∈l):gF l x.name=some x.value:=by
 obtain⟨i,hi,rfl⟩:=cE hx;unfold gF;have e:(l.find? fun y=>decide (y.name=l[i].name))=some l[i]:=by
  rw[List.find?_eq_some_iff_getElem];refine⟨by simp,i,hi,rfl,fun j hj=>?_⟩;have:l[j].name≠l[i].name:=fun e=>by
   have:=JN hb (by omega) hi e;omega
  simp[this]
 rw[e];rfl
theorem te {l:List Entry}(hb:oh l){n:List UInt8}{k:Nat}(h:nR l n≤k)(hk:k<l.length):ahead n l[k].name=true:=by
 unfold nR at h;by_cases hh:lG l n=true
 ·rw[aZ hh]at h;obtain⟨h0,hn⟩:=(qb hb n).1 hh;have:=c7.1 hb (lI l n) k h0 hk (by omega);rw[hn]at this;exact this
 rw[aY hh]at h;refine va (Ic hb h hk) fun e=>hh ?_;exact bK.2 ⟨_,aj hk,aW e⟩
theorem uL {l:List Entry}(hb:oh l)(n v:List UInt8):oh (ko l n v):=by
 unfold ko oh;rw[List.pairwise_append];refine⟨hb.sublist (List.take_sublist _ _),?_,?_⟩
 ·refine List.Pairwise.cons (fun x hx=>?_) (hb.sublist (List.drop_sublist _ _));obtain⟨k,hk,rfl⟩:=cE hx;rw[aR]at hk;rw[List.getElem_drop];exact te (n:=n) hb (k:=nR l n+k) (by omega) (by omega)
 intro x hx y hy;obtain⟨i,hi,rfl⟩:=cE hx;rw[aw]at hi;rw[List.getElem_take];have h1:=FM (l:=l) (n:=n) (k:=i) (by omega);rcases aT.1 hy with rfl | hy
 ·exact h1
 obtain⟨k,hk,rfl⟩:=cE hy;rw[aR]at hk;rw[List.getElem_drop];exact ll h1 (te hb (k:=nR l n+k) (by omega) (by omega))
theorem xk {l:List Entry}(hb:oh l){n v:List UInt8}{x:Entry}(hx:x∈ko l n v):x=⟨n,v⟩∨(x∈l∧x.name≠n):=by
 unfold ko at hx;rcases aK.1 hx with hx | hx
 ·right;obtain⟨i,hi,rfl⟩:=cE hx;rw[aw]at hi;rw[List.getElem_take];have h1:=FM (l:=l) (n:=n) (k:=i) (by omega);exact⟨aj _,fun e=>by rw[e,jl]at h1;cases h1⟩
 rcases aT.1 hx with rfl | hx
 ·exact .inl rfl
 right;obtain⟨k,hk,rfl⟩:=cE hx;rw[aR]at hk;rw[List.getElem_drop];have h1:=te hb (n:=n) (k:=nR l n+k) (by omega) (by omega);exact⟨aj _,fun e=>by
  have e2:l[nR l n+k].name=n:=e;rw[e2,jl]at h1;cases h1⟩
theorem JH {l:List Entry}(hb:oh l)(n v s:List UInt8):s∈(ko l n v).map Entry.name ↔ s∈l.map Entry.name++[n]:=by
 rw[aG,aK,aG,aB];constructor
 ·rintro⟨x,hx,rfl⟩;rcases xk hb hx with rfl | ⟨hx,_⟩
  ·exact .inr rfl
  exact .inl ⟨x,hx,rfl⟩
 rintro (⟨x,hx,rfl⟩ | rfl)
 ·by_cases he:x.name=n
  ·exact⟨⟨n,v⟩,by unfold ko;simp,he.symm⟩
  refine⟨x,?_,rfl⟩;obtain⟨i,hi,rfl⟩:=cE hx;unfold ko;rw[aK];by_cases h1:i<lI l n
  ·exact .inl (by
    have:(l.take (lI l n))[i]'(by rw[aw];omega)=l[i]:=List.getElem_take;rw[←this];exact aj _)
  right;refine cO _ ?_;have hi2:nR l n≤i:=by
   unfold nR;by_cases hh:lG l n=true
   ·rw[aZ hh];obtain⟨h0,hn⟩:=(qb hb n).1 hh;have:i≠lI l n:=fun e=>he (by subst e;exact hn);omega
   rw[aY hh];omega
  have:(l.drop (nR l n))[i - nR l n]'(by rw[aR];omega)=l[i]:=by
   rw[List.getElem_drop];congr 1;omega
  rw[←this];exact aj _
 exact⟨⟨s,v⟩,by unfold ko;simp,rfl⟩
def LJ (l:List Entry)(n v:List UInt8):List Entry:=(kU (l.map Entry.name++[n])).map fun m=>⟨m,if m=n then v else (gF l m).getD []⟩
theorem Pt {l:List Entry}(hb:oh l)(n v:List UInt8):LJ l n v=ko l n v:=by
 have h1:kU (l.map Entry.name++[n])=(ko l n v).map Entry.name:=by
  refine Ii (pQ _) ?_ fun s=>by rw[mD,JH hb]
  unfold BM;rw[List.pairwise_map];exact uL hb n v
 unfold LJ;rw[h1,cL];have: ∀x∈ko l n v,((fun m=>(⟨m,if m=n then v else (gF l m).getD []⟩:Entry)) ∘ Entry.name) x=x:=fun x hx=>by
  rcases xk hb hx with rfl | ⟨hx,hne⟩
  ·simp
  simp only[Function.comp_apply];rw[aY hne,HA hb hx];rfl
 rw[List.map_congr_left this,List.map_id']
theorem xn {l:List Entry}(hb:oh l)(n v:List UInt8):(ko l n v).length=if lG l n=true then l.length else l.length+1:=by
 have:=H0 l n;unfold ko;rw[ag,aH,aw,aR];by_cases hh:lG l n=true
 ·obtain⟨h0,_⟩:=(qb hb n).1 hh;unfold nR;rw[aZ hh,aZ hh];omega
 unfold nR;rw[aY hh,aY hh];omega
end
section
open Go.TR
def jz (l:List Entry)(n:List UInt8):Int:=if dV l≠0 then dV l else if eL n=true then 0 else 3
def pA (l:List Entry)(n:List UInt8):Nat:=if jz l n=0 then lI l n else 0
def k6 (l:List Entry)(n:List UInt8):Bool:=decide (jz l n=0)&&lG l n
theorem qc {l:List Entry}{n:List UInt8}(h:jz l n=0):dV l=0∧eL n=true:=by
 unfold jz at h;split at h
 ·rename_i h1;exact absurd h h1
 rename_i h1;split at h
 ·rename_i h2;exact⟨by simpa using h1,h2⟩
 cases h
theorem Ps (i j:Nat)(h:i+j≤100):IntKind.i64.wrap ((IntKind.u64.wrap (IntKind.i64.wrap ((i:Int)+(j:Int)))).fdiv (2 ^ min (1:Int).toNat IntKind.u64.bits))=(((i+j) / 2:Nat):Int):=by
 have e1:IntKind.i64.wrap ((i:Int)+(j:Int))=((i+j:Nat):Int):=by rw[wrap_i64 (by omega) (by omega)];omega
 have e2:IntKind.u64.wrap ((i+j:Nat):Int)=((i+j:Nat):Int):=by rw[nk];omega
 have e3:(2 ^ min (1:Int).toNat IntKind.u64.bits:Int)=((2:Nat):Int):=rfl;rw[e1,e2,e3,←bG,wrap_i64 (by omega) (by omega)]
theorem MT {l:List Entry}(hb:oh l)(hg: ∀x∈l,eL x.name=true){n:List UInt8}(hn:eL n=true){k:Nat}(hk:k<l.length):decide (kN l[k].name n<0)=decide (k<lI l n):=by
 rw[oD (hg _ (aj hk)) hn];by_cases h:k<lI l n
 ·rw[aZ (FM h),aW h];rfl
 rw[aY (by rw[Ic hb (by omega) hk];decide),aX h];split<;>rfl
theorem R7 {l:List Entry}(hb:oh l)(hg: ∀x∈l,eL x.name=true){n:List UInt8}(hn:eL n=true):lG l n=(decide (lI l n<l.length)&&(kN (l.getD (lI l n) ⟨[],[]⟩).name n==0)):=by
 rw[ai,qb hb,aL,av,beq_iff_eq];constructor
 ·rintro⟨h,e⟩;rw[aE,ao h];refine⟨h,?_⟩;show kN l[lI l n].name n=0;rw[oD (hg _ (aj h)) hn,e,aY (by rw[jl];decide),aZ rfl]
 rintro⟨h,e⟩;rw[aE,ao h]at e;refine⟨h,?_⟩;have e:kN l[lI l n].name n=0:=e;rw[oD (hg _ (aj h)) hn,aY (by rw[Ic hb (ah _) h];decide)]at e;split at e
 ·assumption
 cases e
attribute [local irreducible] ahead kN ej jS eL dV gg lI lG
attribute [local irreducible] vc dT gx fc fA gC gG gw fG Plain eu eR dH VS fq fx fD ju fe IntKind.wrap
set_option maxRecDepth 100000
theorem DB (x:Entry)(n:List UInt8)(hx:x.wf)(hn:n.length≤4611686018427387904)(F:Hp):Plain Tryz.prog F 105 [x.v,S n] (i64 (kN x.name n)):=by
 refine dN (N:=9) (rv:=[.tmp 4]) eP mixed Tryz.func105 rfl rfl rfl rfl rfl ?_;(refine run ?_;repeat intro b);refine dG _ rfl rfl rfl Qw rfl (Ek x.name n hx.name hn F) ?_;(refine run ?_;repeat intro b);rfl
set_option maxHeartbeats 2000000 in
theorem HD (l:List Entry)(n:List UInt8)(h0:dV l=0)(hn:eL n=true)(hw: ∀x∈l,x.wf){p:Option Addr}{c:Nat}{F:Hp}(hf:eY F p (l.flatMap Entry.row)):Plain Tryz.prog F 104 [.slice p l.length c,S n,.func (.func 105) #[] #[]] (pair (i64 (lI l n:Nat)) (.bool (lG l n))):=by
 obtain⟨tA,hgood,_⟩:=fL h0;have hb:=qz h0;have hg: ∀x∈l,eL x.name=true:=fun x hx=>(hgood x hx).1;have hlb:=H0 l n;have Dr:=fun k hk=>MT (k:=k) hb hg hn hk;have hhas:=R7 hb hg hn;have hnl:=C5 hn;refine dN (N:=49) (rv:=[.tmp 6,.tmp 7]) eP mixed Tryz.func104 rfl rfl rfl rfl rfl ?_;(refine run ?_;repeat intro b);refine eU (fun q:Nat×Nat=>q.1≤lI l n∧lI l n≤q.2∧q.2≤l.length) (fun q=>⟨[(0,.v (.slice p l.length c)),(1,.v (S n)),(2,.v (.func (.func 105) #[] #[])),(8,.v (i64 (l.length:Nat))),(9,.v (i64 (q.1:Nat))),(10,.v (i64 (q.2:Nat)))],F,[],0⟩) (fun q=>q.2 - q.1) (0,l.length) ⟨az _,hlb,ah _⟩ (VS.eH [0,1,2,8,9,10] rfl rfl) ?_;rintro⟨i,j⟩ ⟨h1,h2,h3⟩;dsimp only at h1 h2 h3 ⊢;by_cases hlt:i<j
 ·obtain⟨k,hk⟩: ∃k,k=(i+j) / 2:=⟨_,rfl⟩;have hm:=Ps i j (by omega);rw[←hk]at hm;have hkl:k<l.length:=by omega
  obtain⟨o1,o2⟩:=eZ eI (by decide) hf k hkl;have wx:=hw l[k] (aj hkl);have hok:=Dr k hkl;generalize l[k]=x at o2 wx hok;(refine run ?_;repeat intro b);refine gm rfl (by omega) ?_;(refine run ?_;repeat intro b);rw[hm];refine dI rfl rfl rfl ⟨by omega,by omega,dO hf (j:=k * 2) (by rw[dL eI];omega)⟩ ?_;refine fy x.row rfl rfl rfl rfl rfl (by rw[ae];exact o1) (by rw[ae];exact o2) ?_;(refine run ?_;repeat intro b);refine dG _ rfl rfl rfl QC rfl (DB x n wx (by omega) F) ?_;(refine run ?_;repeat intro b);refine ez (decide (k<lI l n)) (a8 (fun b=>some (EV.v (.bool b))) hok) (fun h=>?_) (fun h=>?_)
  ·have h:=ar h;(refine run ?_;repeat intro b);rw[dQ (by omega)];exact fj (k+1,j) ⟨by simp only;omega,h2,h3⟩ (by simp only;omega) (VS.eH [0,1,2,8,9,10] rfl rfl)
  have h:=au h;(refine run ?_;repeat intro b);exact fj (i,k) ⟨h1,by simp only;omega,by simp only;omega⟩ (by simp only;omega) (VS.eH [0,1,2,8,9,10] rfl rfl)
 obtain rfl:i=j:=by omega
 obtain rfl:i=lI l n:=by omega
 have hx: ∃x:Entry,x.wf∧x=l.getD (lI l n) ⟨[],[]⟩∧(lI l n<l.length→(im p (lI l n * 2)).isSome=true∧ ∀i,i<2→gb F (im (im p (lI l n * 2)) i)=x.row[i]?):=by
  by_cases h:lI l n<l.length
  ·obtain⟨o1,o2⟩:=eZ eI (by decide) hf (lI l n) h;have e:l.getD (lI l n) ⟨[],[]⟩=l[lI l n]:=by rw[aE,ao h];rfl
   exact⟨l[lI l n],hw _ (aj h),e.symm,fun _=>⟨o1,o2⟩⟩
  refine⟨⟨[],[]⟩,⟨az _,az _⟩,?_,fun h'=>absurd h' h⟩;rw[aE,cy (by omega)];rfl
 obtain⟨x,wx,hxe,hxg⟩:=hx;rw[←hxe]at hhas;have hdk:decide (((lI l n:Nat):Int)<((l.length:Nat):Int))=true→lI l n<l.length:=fun h=>by have:=ar h;omega
 generalize lI l n=m at *;(refine run ?_;repeat intro b);refine gu rfl (by omega) ?_;(refine run ?_;repeat intro b);refine iw rfl rfl rfl rfl rfl (fun hg=>⟨by omega,by have:=hdk hg.1;omega,dO hf (j:=m * 2) (by rw[dL eI];have:=hdk hg.1;omega)⟩) ?_;(refine run ?_;repeat intro b);refine uc x.row rfl rfl rfl rfl rfl rfl rfl (fun hg=>by rw[ae];exact hxg (hdk hg.1)) ?_;(refine run ?_;repeat intro b);refine gi _ rfl rfl rfl rfl QC rfl rfl (fun _=>DB x n wx (by omega) F) ?_;(refine run ?_;repeat intro b);rw[hhas];have e:decide (((m:Nat):Int)<((l.length:Nat):Int))=decide (m<l.length):=by rw[aV];omega
 simp only[gE,fH,e]
theorem vW (l:List Entry)(n:List UInt8)(hl:l.length≤4611686018427387904)(hw: ∀x∈l,x.wf)(hn:n.length≤4611686018427387904){p:Option Addr}{c:Nat}{F:Hp}(hf:eY F p (l.flatMap Entry.row)):Plain Tryz.prog F 51 [.slice p l.length c,S n] (triple (i64 (pA l n:Nat)) (.bool (k6 l n)) (i64 (jz l n))):=by
 refine dN (N:=26) (rv:=[.tmp 4,.tmp 5,.tmp 6]) eP mixed Tryz.func51 rfl rfl rfl rfl rfl ?_;(refine run ?_;repeat intro b);refine dG _ rfl rfl rfl Ma rfl (mw l hl hw hf) ?_;(refine run ?_;repeat intro b);refine ez (decide (dV l≠0)) ?_ (fun h=>?_) (fun h=>?_)
 ·refine dS ?_;rw[ai];simp
 ·have h:=ar h;have e:jz l n=dV l:=by unfold jz;rw[aZ h]
  have e2:pA l n=0:=by unfold pA;rw[e,aY h]
  have e3:k6 l n=false:=by unfold k6;rw[e,aX h];rfl
  rw[e,e2,e3];(refine run ?_;repeat intro b);rfl
 have h0:dV l=0:=by simpa using h
 have e:jz l n=if eL n=true then 0 else 3:=by unfold jz;rw[aY (by simpa using h0)]
 (refine run ?_;repeat intro b);refine dG _ rfl rfl rfl wB rfl (oK n hn F) ?_;cases hg:eL n with
 | false=>
  rw[hg]at e;have e1:jz l n=3:=e;have e2:pA l n=0:=by unfold pA;rw[e1];rfl
  have e3:k6 l n=false:=by unfold k6;rw[e1];rfl
  rw[e1,e2,e3];(refine run ?_;repeat intro b);rfl
 | true=>
  rw[hg]at e;have e1:jz l n=0:=e;have e2:pA l n=lI l n:=by unfold pA;rw[e1];rfl
  have e3:k6 l n=lG l n:=by unfold k6;rw[e1];rfl
  rw[e1,e2,e3];(refine run ?_;repeat intro b);refine dG _ rfl rfl rfl Va rfl (HD l n h0 hg hw hf) ?_;(refine run ?_;repeat intro b);rfl
def xE (l:List Entry)(n:List UInt8):List UInt8:=if k6 l n=true then (l.getD (lI l n) ⟨[],[]⟩).value else []
theorem GZ (l:List Entry)(n:List UInt8)(hl:l.length≤4611686018427387904)(hw: ∀x∈l,x.wf)(hn:n.length≤4611686018427387904){p:Option Addr}{c:Nat}{F:Hp}(hf:eY F p (l.flatMap Entry.row)):Plain Tryz.prog F 14 [.slice p l.length c,S n] (triple (S (xE l n)) (.bool (k6 l n)) (i64 (jz l n))):=by
 refine dN (N:=26) (rv:=[.tmp 4,.tmp 5,.tmp 6]) eP mixed Tryz.func14 rfl rfl rfl rfl rfl ?_;(refine run ?_;repeat intro b);refine dG _ rfl rfl rfl V5 rfl (vW l n hl hw hn hf) ?_;cases hb:k6 l n with
 | false=>
  have e:xE l n=[]:=by unfold xE;rw[hb];rfl
  rw[e];(refine run ?_;repeat intro b);rfl
 | true=>
  have h0:jz l n=0:=by
   unfold k6 at hb;simp at hb;exact hb.1
  obtain⟨h1,h2⟩:=qc h0;have hh:lG l n=true:=by
   unfold k6 at hb;simp at hb;exact hb.2
  obtain⟨hlt,_⟩:=(qb (qz h1) n).1 hh;have e:xE l n=(l.getD (lI l n) ⟨[],[]⟩).value:=by unfold xE;rw[hb];rfl
  have e2:pA l n=lI l n:=by unfold pA;rw[h0];rfl
  obtain⟨o1,o2⟩:=eZ eI (by decide) hf (lI l n) hlt;rw[e,e2,h0,aE,ao hlt,dw];generalize lI l n=m at *;generalize l[m]=x at o2;(refine run ?_;repeat intro b);refine dI rfl rfl rfl ⟨by omega,by omega,dO hf (j:=m * 2) (by rw[dL eI];omega)⟩ ?_;(refine run ?_;repeat intro b);refine dI rfl rfl rfl (by rw[ae];exact o1) ?_;refine fr (S x.value) rfl rfl rfl rfl (by rw[ae];exact o2 1 (by decide)) ?_;(refine run ?_;repeat intro b);rfl
theorem tD (l:List Entry)(n:List UInt8)(hl:l.length≤4611686018427387904){p:Option Addr}{c:Nat}{F:Hp}(hf:eY F p (l.flatMap Entry.row)):Plain Tryz.prog F 86 [.slice p l.length c,S n] (pair (S ((gF l n).getD [])) (.bool (gF l n).isSome)):=by
 refine dN (N:=21) (rv:=[.tmp 4,.tmp 5]) eP mixed Tryz.func86 rfl rfl rfl rfl rfl ?_;(refine run ?_;repeat intro b);refine eU (fun k:Nat=>k≤l.length∧gF l n=gF (l.drop k) n) (fun k=>⟨[(1,.v (S n)),(8,.v (.slice p l.length c)),(9,.v (i64 (l.length:Nat))),(10,.v (i64 (k:Nat)))],F,[],0⟩) (fun k=>l.length - k) 0 ⟨az _,rfl⟩ (VS.eH [1,8,9,10] rfl rfl) ?_;rintro k ⟨hk,hu⟩;by_cases hlt:k<l.length
 ·obtain⟨o1,o2⟩:=eZ eI (by decide) hf k hlt;have hst:gF (l.drop k) n=if l[k].name=n then some l[k].value else gF (l.drop (k+1)) n:=by
   rw[aO hlt];unfold gF;rw[List.find?_cons];by_cases h:l[k].name=n<;>simp[h]
  rw[hst]at hu;generalize l[k]=x at o2 hu;(refine run ?_;repeat intro b);refine gm rfl (by omega) ?_;(refine run ?_;repeat intro b);refine dI rfl rfl rfl ⟨by omega,by omega,dO hf (j:=k * 2) (by rw[dL eI];omega)⟩ ?_;refine fy x.row rfl rfl rfl rfl rfl (by rw[ae];exact o1) (by rw[ae];exact o2) ?_;(refine run ?_;repeat intro b);refine ez (decide (x.name=n)) rfl (fun h=>?_) (fun h=>?_)
  ·rw[aZ (ar h)]at hu;rw[hu];(refine run ?_;repeat intro b);rfl
  rw[aY (au h)]at hu;(refine run ?_;repeat intro b);rw[dQ (by omega)];exact iH (k+1) [0] [1,8,9,10] ⟨hlt,hu⟩ (by omega) rfl rfl rfl rfl trivial rfl
 have hge:k=l.length:=by omega
 subst hge;rw[bZ]at hu;rw[hu];(refine run ?_;repeat intro b);refine gu rfl (by omega) ?_;(refine run ?_;repeat intro b);rfl
end
end Go.Proofs.YthbnddgjkonkdaaGreatDoor
