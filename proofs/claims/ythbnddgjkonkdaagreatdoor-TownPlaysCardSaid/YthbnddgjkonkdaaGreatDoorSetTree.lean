/- A part of the proof. -/
import Derived.Test.YthbnddgjkonkdaaGreatDoorSetIdx
import Derived.Test.YthbnddgjkonkdaaGreatDoorSetFwL
set_option linter.unusedVariables false
set_option linter.unusedSimpArgs false
namespace Go.Proofs.YthbnddgjkonkdaaGreatDoor
section
open Go.TR
theorem Ia {α:Type}{f g:α→Bool}: ∀{l:List α},(∀x∈l,f x=g x)→l.any f=l.any g
 | [],_=>rfl
 | a::l,h=>by
  rw[List.any_cons,List.any_cons,h a (by simp),Ia fun x hx=>h x (by simp[hx])]
theorem xC {F:Hp}{b:Nat}{x:Value}(h:e9 F (some ⟨b,0,none⟩) [x]):gi F (some ⟨b,0,none⟩)=some x:=by
 have:=h 0 x rfl;simpa [iw,Addr.add] using this
theorem Xh (l:List Value){n:Nat}: ∀e∈l.map EV.v,EV.lt n e:=fun e he=>by
 obtain⟨x,_,rfl⟩:=aG.1 he;trivial
theorem Ea {α:Type}{f:α→Bool}{l:List α}{k:Nat}(h:k<l.length)(h0:(l.take k).any f=false)(h1:f l[k]=false):(l.take (k+1)).any f=false:=by
 rw[al h,bK,h0];simp[h1]
theorem I1 {α:Type}{f:α→Bool}{l:List α}{k:Nat}(h:k<l.length)(h1:f l[k]=true):l.any f=true:=bT.2 ⟨l[k],aj h,h1⟩
attribute [local irreducible] ahead kP eC jQ eP dY gj
attribute [local irreducible] vc dW gz fg fD gF gJ gB fJ Plain eD eX dK VS fv fA fG jt fh IntKind.wrap
set_option maxRecDepth 100000
theorem DF (q:Entry→Bool)(g:Nat)(lb:Array Value)(hb:dK Tryz.prog g)(l:List Entry){p:Option Addr}{c:Nat}{F:Hp}(hf:e9 F p (l.flatMap Entry.row))(hl:l.length≤4611686018427387904)(hp: ∀x∈l,Plain Tryz.prog F g (.agg (Entry.row x).toArray::lb.toList) (.bool (q x))):
  Plain Tryz.prog F 267 [.slice p l.length c,.func (.func g) #[] lb] (i64 (oy q l)):=by
 refine dQ (N:=19) (rv:=[.tmp 4]) eW mixed Tryz.func267 rfl rfl rfl rfl rfl ?_;(refine run ?_;repeat intro b);refine eY (fun k:Nat=>k≤l.length∧(l.take k).any q=false) (fun k=>⟨[(0,.v (.slice p l.length c)),(1,.v (.func (.func g) #[] lb)),(7,.v (i64 (l.length:Nat))),(8,.v (i64 (k:Nat)))],F,[],0⟩) (fun k=>l.length - k) 0 ⟨az _,rfl⟩ (VS.eL [0,1,7,8] rfl rfl) ?_;rintro k ⟨hk,hany⟩;(refine run ?_;repeat intro b);refine eE _ rfl (fun h=>?_) (fun h=>?_)
 ·have hlt:k<l.length:=by simpa using h
  obtain⟨o1,o2⟩:=fa eM (by decide) hf k hlt;(refine run ?_;repeat intro b);refine dL rfl rfl rfl ⟨by omega,by omega,dR hf (j:=k * 2) (by rw[dO eM];omega)⟩ ?_;refine fB (Entry.row l[k]) rfl rfl rfl rfl rfl (by rw[ae];exact o1) (by rw[ae];exact o2) ?_;(refine run ?_;repeat intro b);refine dJ _ rfl rfl (by rw[fE];rfl) hb rfl (hp l[k] (aj hlt)) ?_;(refine run ?_;repeat intro b);refine eE _ rfl (fun h2=>?_) (fun h2=>?_)
  ·(refine run ?_;repeat intro b);rw[k8 hlt hany h2];rfl
  (refine run ?_;repeat intro b);rw[dT (by omega)];refine fp (k+1) ⟨hlt,?_⟩ (by omega) (VS.eL [0,1,7,8] rfl rfl);rw[al hlt,bK,hany];simp[h2]
 have hge:k=l.length:=by
  have: ¬k<l.length:=by simpa using h
  omega
 subst hge;rw[aD]at hany;(refine run ?_;repeat intro b);rw[lu hany];rfl
theorem NI (q:Entry→Bool)(g:Nat)(lb:Array Value)(hb:dK Tryz.prog g)(l:List Entry){p:Option Addr}{c:Nat}{F:Hp}(hf:e9 F p (l.flatMap Entry.row))(hl:l.length≤4611686018427387904)(hp: ∀x∈l,Plain Tryz.prog F g (.agg (Entry.row x).toArray::lb.toList) (.bool (q x))):
  Plain Tryz.prog F 298 [.slice p l.length c,.func (.func g) #[] lb] (.bool (l.any q)):=by
 refine dQ (N:=9) (rv:=[.tmp 4]) eW mixed Tryz.func298 rfl rfl rfl rfl rfl ?_;(refine run ?_;repeat intro b);refine dJ _ rfl rfl rfl L7 rfl (DF q g lb hb l hf hl hp) ?_;(refine run ?_;repeat intro b);rw[nY];rfl
theorem PR (q:Nat→Bool)(g:Nat)(lb:Array Value)(hb:dK Tryz.prog g)(l:List Nat){p:Option Addr}{c:Nat}{F:Hp}(hf:e9 F p (l.map mu))(hl:l.length≤4611686018427387904)(hp: ∀x∈l,Plain Tryz.prog F g (mu x::lb.toList) (.bool (q x))):
  Plain Tryz.prog F 316 [.slice p l.length c,.func (.func g) #[] lb] (i64 (oy q l)):=by
 refine dQ (N:=19) (rv:=[.tmp 4]) eW mixed Tryz.func316 rfl rfl rfl rfl rfl ?_;(refine run ?_;repeat intro b);refine eY (fun k:Nat=>k≤l.length∧(l.take k).any q=false) (fun k=>⟨[(0,.v (.slice p l.length c)),(1,.v (.func (.func g) #[] lb)),(7,.v (i64 (l.length:Nat))),(8,.v (i64 (k:Nat)))],F,[],0⟩) (fun k=>l.length - k) 0 ⟨az _,rfl⟩ (VS.eL [0,1,7,8] rfl rfl) ?_;rintro k ⟨hk,hany⟩;(refine run ?_;repeat intro b);refine eE _ rfl (fun h=>?_) (fun h=>?_)
 ·have hlt:k<l.length:=by simpa using h
  (refine run ?_;repeat intro b);refine dL rfl rfl rfl ⟨by omega,by omega,dR hf (j:=k) (by simpa using hlt)⟩ ?_;refine fw (mu l[k]) rfl rfl rfl rfl (by have:=gS hf (j:=k) (by simpa using hlt);simpa using this) ?_;(refine run ?_;repeat intro b);refine dJ _ rfl rfl (by rw[fE];rfl) hb rfl (hp l[k] (aj hlt)) ?_;(refine run ?_;repeat intro b);refine eE _ rfl (fun h2=>?_) (fun h2=>?_)
  ·(refine run ?_;repeat intro b);rw[k8 hlt hany h2];rfl
  (refine run ?_;repeat intro b);rw[dT (by omega)];refine fp (k+1) ⟨hlt,?_⟩ (by omega) (VS.eL [0,1,7,8] rfl rfl);rw[al hlt,bK,hany];simp[h2]
 have hge:k=l.length:=by
  have: ¬k<l.length:=by simpa using h
  omega
 subst hge;rw[aD]at hany;(refine run ?_;repeat intro b);rw[lu hany];rfl
theorem OV (q:Nat→Bool)(g:Nat)(lb:Array Value)(hb:dK Tryz.prog g)(l:List Nat){p:Option Addr}{c:Nat}{F:Hp}(hf:e9 F p (l.map mu))(hl:l.length≤4611686018427387904)(hp: ∀x∈l,Plain Tryz.prog F g (mu x::lb.toList) (.bool (q x))):
  Plain Tryz.prog F 300 [.slice p l.length c,.func (.func g) #[] lb] (.bool (l.any q)):=by
 refine dQ (N:=9) (rv:=[.tmp 4]) eW mixed Tryz.func300 rfl rfl rfl rfl rfl ?_;(refine run ?_;repeat intro b);refine dJ _ rfl rfl rfl Wk rfl (PR q g lb hb l hf hl hp) ?_;(refine run ?_;repeat intro b);rw[nY];rfl
theorem Kq (x:Entry)(w:List UInt8)(hw:x.wf){q:Option Addr}{F:Hp}(hq:gi F q=some (S w)):Plain Tryz.prog F 299 [x.v,.pointer q] (.bool (!decide (jQ x.name=w))):=by
 refine dQ (N:=9) (rv:=[.tmp 3]) eW mixed Tryz.func299 rfl rfl rfl rfl rfl ?_;(refine run ?_;repeat intro b);refine fO (by kernel_rfl) ?_;(refine run ?_;repeat intro b);refine dJ _ rfl rfl rfl IC rfl (oE x.name hw.name F) ?_;(refine run ?_;repeat intro b);refine fw (S w) rfl rfl rfl rfl hq ?_;(refine run ?_;repeat intro b);simp only[gH,ga];congr
theorem Kz (m:Nat)(F:Hp):Plain Tryz.prog F 301 [mu m] (.bool (decide (MM≤m))):=by
 refine dQ (N:=5) (rv:=[.tmp 2]) eW mixed Tryz.func301 rfl rfl rfl rfl rfl ?_;(refine run ?_;repeat intro b);have e:decide ((2305843009213693951:Int)≤(m:Int))=decide (MM≤m):=by
  rw[ai,av,av];show (2305843009213693951:Int)≤(m:Int) ↔ 2305843009213693951≤m;omega
 rw[e];rfl
set_option maxHeartbeats 1000000 in
theorem Ae (p:jo)(a:Lay)(hw:p.wf){F:Hp}(hf:p.at F a):Plain Tryz.prog F 270 [p.v a] (i64 (fV p)):=by
 obtain⟨h1,h2,h3,h4,h5⟩:=hw;obtain⟨f1,f2⟩:=hf;refine dQ (N:=33) (rv:=[.tmp 2]) eW mixed Tryz.func270 rfl rfl rfl rfl rfl ?_;(refine run ?_;repeat intro b);refine dJ _ rfl rfl rfl wH rfl (oF p.name h1 F) ?_;unfold fV;cases hg:eP p.name with
 | false=>
  (refine run ?_;repeat intro b);rfl
 | true=>
  rw[aZ rfl];(refine run ?_;repeat intro b);refine dJ _ rfl rfl rfl NK rfl (mK p.gg h2 h3 f1) ?_;(refine run ?_;repeat intro b);refine eE (decide (dY p.gg≠0)) ?_ (fun h=>?_) (fun h=>?_)
  ·refine dV ?_;rw[ai];simp
  ·rw[aZ (ar h)];(refine run ?_;repeat intro b);rfl
  rw[aY (au h)];obtain⟨_,hgood,_⟩:=fP (by simpa using h);have hany:(p.gg.any fun x=> !decide (jQ x.name=jQ p.name))=p.gg.any fun x=> !decide (eC x.name=eC p.name):=by
   refine Ia fun x hx=>?_;unfold jQ;rw[aZ (hgood x hx).1,aZ hg]
  rw[←hany];(refine run ?_;repeat intro b);refine dJ _ rfl rfl rfl IC rfl (oE p.name h1 F) ?_;(refine run ?_;repeat intro b);refine fX (VS.freeze 1 [1,19,20] rfl rfl rfl rfl fun F1 hs1 hf1=>VS.id ?_);refine dJ _ rfl rfl rfl VH rfl (NI (fun x=> !decide (jQ x.name=jQ p.name)) _ #[_] UO p.gg (eu hs1 f1) h2 (fun x hx=>Kq x _ (h3 x hx) (xC hf1))) ?_;(refine run ?_;repeat intro b);refine gm _ rfl rfl rfl rfl T7 rfl rfl (fun _=>OV (fun m=>decide (MM≤m)) _ #[] V2 p.fF (eu hs1 f2) h4 (fun x _=>Kz x F1)) ?_;(refine run ?_;repeat intro b);generalize (p.gg.any fun x=> !decide (jQ x.name=jQ p.name))=x;generalize (p.fF.any fun m=>decide (MM≤m))=y;refine eE (x||decide (p.fF.length≠16)||y) ?_ (fun h=>?_) (fun h=>?_)
  ·refine dV ?_;have e:(((p.fF.length:Nat):Int) != 16)=decide (p.fF.length≠16):=by
    rw[ai];simp;omega
   rw[fx,fx,e]
  ·(refine run ?_;repeat intro b);by_cases hs:p.fF.length=16<;>cases x<;>cases y<;>simp_all [gH]
  (refine run ?_;repeat intro b);by_cases hs:p.fF.length=16<;>cases x<;>cases y<;>simp_all [gH]
set_option maxHeartbeats 1000000 in
theorem Aw (p:jo)(a:Lay)(hw:p.wf){F:Hp}(hf:p.at F a):Plain Tryz.prog F 186 [p.v a] (i64 (fV p)):=by
 obtain⟨h1,h2,h3,h4,h5⟩:=hw;obtain⟨f1,f2⟩:=hf;refine dQ (N:=47) (rv:=[.tmp 2]) eW mixed Tryz.func186 rfl rfl rfl rfl rfl ?_;(refine run ?_;repeat intro b);refine dJ _ rfl rfl rfl Px rfl (oK p.name h1 F) ?_;unfold fV;cases hg:eP p.name with
 | false=>
  (refine run ?_;repeat intro b);rfl
 | true=>
  rw[aZ rfl];(refine run ?_;repeat intro b);refine dJ _ rfl rfl rfl Tz rfl (BU p.gg h2 h3 f1) ?_;(refine run ?_;repeat intro b);refine eE (decide (dY p.gg≠0)) ?_ (fun h=>?_) (fun h=>?_)
  ·refine dV ?_;rw[ai];simp
  ·rw[aZ (ar h)];(refine run ?_;repeat intro b);rfl
  rw[aY (au h)];(refine run ?_;repeat intro b);refine eY (fun k:Nat=>k≤p.gg.length∧((p.gg.take k).any fun x=> !decide (eC x.name=eC p.name))=false) (fun k=>⟨[(1,.loc 0 0),(19,.v (.slice a.e p.gg.length a.ce)),(20,.v (i64 (p.gg.length:Nat))),(21,.v (i64 (k:Nat)))],F,[(0,⟨some b,[.v (S p.name),.v (.slice a.e p.gg.length a.ce),.v (.slice a.s p.fF.length a.cs)],45,3⟩)],1⟩) (fun k=>p.gg.length - k) 0 ⟨az _,rfl⟩ (VS.eL [1,19,20,21] rfl rfl) ?_;rintro k ⟨hk,hu⟩;by_cases hlt:k<p.gg.length
  ·obtain⟨o1,o2⟩:=fa eM (by decide) f1 k hlt;have wx:=h3 p.gg[k] (aj hlt);have hst:=Ea hlt hu;have hit:=I1 (f:=fun x:Entry=> !decide (eC x.name=eC p.name)) hlt;generalize p.gg[k]=x at o2 wx hst hit;(refine run ?_;repeat intro b);refine gw rfl (by omega) ?_;(refine run ?_;repeat intro b);refine dL rfl rfl rfl ⟨by omega,by omega,dR f1 (j:=k * 2) (by rw[dO eM];omega)⟩ ?_;refine fB x.row rfl rfl rfl rfl rfl (by rw[ae];exact o1) (by rw[ae];exact o2) ?_;(refine run ?_;repeat intro b);refine fO (by kernel_rfl) ?_;(refine run ?_;repeat intro b);refine dJ _ rfl rfl rfl wq rfl (lq x.name wx.name F) ?_;(refine run ?_;repeat intro b);refine dJ _ rfl rfl rfl wq rfl (lq p.name h1 F) ?_;(refine run ?_;repeat intro b);refine eE (!decide (eC x.name=eC p.name)) rfl (fun h=>?_) (fun h=>?_)
   ·rw[aZ (hit h)];(refine run ?_;repeat intro b);rfl
   (refine run ?_;repeat intro b);rw[dT (by omega)];exact iK (k+1) [1] [1,19,20,21] ⟨hlt,hst h⟩ (by omega) rfl rfl rfl rfl ⟨⟨Nat.zero_lt_succ _,fun e he=>Xh [_,_,_] e he⟩,trivial⟩ rfl
  have hge:k=p.gg.length:=by omega
  subst hge;rw[aD]at hu;rw[aY (by rw[hu];decide)];(refine run ?_;repeat intro b);refine gy rfl (by omega) ?_;(refine run ?_;repeat intro b);refine eE (decide (p.fF.length≠16)) ?_ (fun h=>?_) (fun h=>?_)
  ·refine dV ?_;rw[ai];simp;omega
  ·rw[aZ (ar h)];(refine run ?_;repeat intro b);rfl
  rw[aY (au h)];(refine run ?_;repeat intro b);refine eY (fun k:Nat=>k≤p.fF.length∧((p.fF.take k).any fun m=>decide (MM≤m))=false) (fun k=>⟨[(38,.v (.slice a.s p.fF.length a.cs)),(39,.v (i64 (p.fF.length:Nat))),(40,.v (i64 (k:Nat)))],F,[],1⟩) (fun k=>p.fF.length - k) 0 ⟨az _,rfl⟩ (VS.iB [0] rfl (VS.eL [38,39,40] rfl rfl)) ?_;rintro k ⟨hk,hu2⟩;by_cases hlt:k<p.fF.length
  ·have g:=gS f2 (j:=k) (by rw[ab];exact hlt);rw[cG]at g;have hst:=Ea hlt hu2;have hit:=I1 (f:=fun m:Nat=>decide (MM≤m)) hlt;generalize p.fF[k]=m at g hst hit;(refine run ?_;repeat intro b);refine gw rfl (by omega) ?_;(refine run ?_;repeat intro b);refine dL rfl rfl rfl ⟨by omega,by omega,dR f2 (j:=k) (by rw[ab];exact hlt)⟩ ?_;refine fw (mu m) rfl rfl rfl rfl (by rw[ae,aA];exact g) ?_;(refine run ?_;repeat intro b);refine eE (decide (MM≤m)) ?_ (fun h=>?_) (fun h=>?_)
   ·refine dV ?_;rw[ai,av,av];show (2305843009213693951:Int)≤(m:Int) ↔ 2305843009213693951≤m;omega
   ·rw[aZ (hit h)];(refine run ?_;repeat intro b);rfl
   (refine run ?_;repeat intro b);rw[dT (by omega)];exact fp (k+1) ⟨hlt,hst h⟩ (by omega) (VS.eL [38,39,40] rfl rfl)
  have hge:k=p.fF.length:=by omega
  subst hge;rw[aD]at hu2;rw[aY (by rw[hu2];decide)];(refine run ?_;repeat intro b);refine gy rfl (by omega) ?_;(refine run ?_;repeat intro b);rfl
end
section
open Go.TR
def lL (l:List Entry)(n:List UInt8):Nat:=l.findIdx fun x=> !ahead x.name n
def lJ (l:List Entry)(n:List UInt8):Bool:=l.any fun x=>decide (x.name=n)
def gI (l:List Entry)(n:List UInt8):Option (List UInt8):=(l.find? fun x=>decide (x.name=n)).map Entry.value
def nR (l:List Entry)(n:List UInt8):Nat:=if lJ l n=true then lL l n+1 else lL l n
def kx (l:List Entry)(n v:List UInt8):List Entry:=l.take (lL l n)++⟨n,v⟩::l.drop (nR l n)
def IJ (l:List Entry)(n:List UInt8):List Entry:=l.filter fun x=> !decide (x.name=n)
def oo (l:List Entry):Prop:=List.Pairwise (fun a b=>ahead a.name b.name=true) l
theorem qq {l:List Entry}(h:dY l=0):oo l:=(yI (fP h).2.2).2
theorem Ie (l:List Entry)(n:List UInt8):lL l n≤l.length:=List.findIdx_le_length
theorem Fs {l:List Entry}{n:List UInt8}{k:Nat}(h:k<lL l n):ahead (l[k]'(Nat.lt_of_lt_of_le h (Ie l n))).name n=true:=by
 have:=List.not_of_lt_findIdx h;simpa using this
theorem ID {l:List Entry}(hb:oo l){n:List UInt8}{k:Nat}(h:lL l n≤k)(hk:k<l.length):ahead l[k].name n=false:=by
 have h0:lL l n<l.length:=by omega
 have h1:ahead l[lL l n].name n=false:=by
  have:=List.findIdx_getElem (p:=fun x:Entry=> !ahead x.name n) (xs:=l) (w:=h0);simp only[bz]at this;exact this
 by_cases he:lL l n=k
 ·subst he;exact h1
 have h2:=db.1 hb (lL l n) k h0 hk (by omega);by_cases h3:ahead l[k].name n=true
 ·rw[kZ h2 h3]at h1;cases h1
 simpa using h3
theorem qt {l:List Entry}(hb:oo l)(n:List UInt8):lJ l n=true ↔ ∃h:lL l n<l.length,l[lL l n].name=n:=by
 unfold lJ;rw[bT];constructor
 ·rintro⟨x,hx,hn⟩;have hn:=ar hn;obtain⟨k,hk,rfl⟩:=cH hx;have h1: ¬k<lL l n:=fun h=>by
   have:=Fs h;rw[hn,jr]at this;cases this
  have h0:lL l n<l.length:=by omega
  refine⟨h0,?_⟩;by_cases he:lL l n=k
  ·subst he;exact hn
  have h2:=db.1 hb (lL l n) k h0 hk (by omega);rw[hn,ID hb (ah _) h0]at h2;cases h2
 rintro⟨h,hn⟩;exact⟨_,aj h,aW hn⟩
theorem KJ {l:List Entry}(hb:oo l)(n:List UInt8):gI l n=if lJ l n=true then some (l.getD (lL l n) ⟨[],[]⟩).value else none:=by
 unfold gI;by_cases h:lJ l n=true
 ·rw[aZ h];obtain⟨h0,hn⟩:=(qt hb n).1 h;have e:(l.find? fun x=>decide (x.name=n))=some l[lL l n]:=by
   rw[List.find?_eq_some_iff_getElem];refine⟨by simpa using hn,lL l n,h0,rfl,fun j hj=>?_⟩;have:=Fs hj;have hne:l[j].name≠n:=fun e=>by rw[e,jr]at this;cases this
   simp[hne]
  rw[e,aE,ao h0];rfl
 rw[aY h];have e:(l.find? fun x=>decide (x.name=n))=none:=by
  rw[List.find?_eq_none];intro x hx hn;exact h (bT.2 ⟨x,hx,hn⟩)
 rw[e];rfl
theorem GO (l:List Entry)(n:List UInt8):(gI l n).isSome=lJ l n:=by
 unfold gI lJ;rw[Option.isSome_map,ai,List.find?_isSome,bT]
theorem Jz {l:List Entry}(hb:oo l){i j:Nat}(hi:i<l.length)(hj:j<l.length)(h:l[i].name=l[j].name):i=j:=by
 rcases Nat.lt_trichotomy i j with h1 | h1 | h1
 ·have:=db.1 hb i j hi hj h1;rw[h,jr]at this;cases this
 ·exact h1
 have:=db.1 hb j i hj hi h1;rw[h,jr]at this;cases this
theorem Gx {l:List Entry}(hb:oo l){x:Entry}(hx:x∈l):gI l x.name=some x.value:=by
 obtain⟨i,hi,rfl⟩:=cH hx;unfold gI;have e:(l.find? fun y=>decide (y.name=l[i].name))=some l[i]:=by
  rw[List.find?_eq_some_iff_getElem];refine⟨by simp,i,hi,rfl,fun j hj=>?_⟩;have:l[j].name≠l[i].name:=fun e=>by
   have:=Jz hb (by omega) hi e;omega
  simp[this]
 rw[e];rfl
theorem tr {l:List Entry}(hb:oo l){n:List UInt8}{k:Nat}(h:nR l n≤k)(hk:k<l.length):ahead n l[k].name=true:=by
 unfold nR at h;by_cases hh:lJ l n=true
 ·rw[aZ hh]at h;obtain⟨h0,hn⟩:=(qt hb n).1 hh;have:=db.1 hb (lL l n) k h0 hk (by omega);rw[hn]at this;exact this
 rw[aY hh]at h;refine vU (ID hb h hk) fun e=>hh ?_;exact bT.2 ⟨_,aj hk,aW e⟩
theorem uO {l:List Entry}(hb:oo l)(n v:List UInt8):oo (kx l n v):=by
 unfold kx oo;rw[List.pairwise_append];refine⟨hb.sublist (List.take_sublist _ _),?_,?_⟩
 ·refine List.Pairwise.cons (fun x hx=>?_) (hb.sublist (List.drop_sublist _ _));obtain⟨k,hk,rfl⟩:=cH hx;rw[aR]at hk;rw[List.getElem_drop];exact tr (n:=n) hb (k:=nR l n+k) (by omega) (by omega)
 intro x hx y hy;obtain⟨i,hi,rfl⟩:=cH hx;rw[aw]at hi;rw[List.getElem_take];have h1:=Fs (l:=l) (n:=n) (k:=i) (by omega);rcases aT.1 hy with rfl | hy
 ·exact h1
 obtain⟨k,hk,rfl⟩:=cH hy;rw[aR]at hk;rw[List.getElem_drop];exact kZ h1 (tr hb (k:=nR l n+k) (by omega) (by omega))
theorem xx {l:List Entry}(hb:oo l){n v:List UInt8}{x:Entry}(hx:x∈kx l n v):x=⟨n,v⟩∨(x∈l∧x.name≠n):=by
 unfold kx at hx;rcases aK.1 hx with hx | hx
 ·right;obtain⟨i,hi,rfl⟩:=cH hx;rw[aw]at hi;rw[List.getElem_take];have h1:=Fs (l:=l) (n:=n) (k:=i) (by omega);exact⟨aj _,fun e=>by rw[e,jr]at h1;cases h1⟩
 rcases aT.1 hx with rfl | hx
 ·exact .inl rfl
 right;obtain⟨k,hk,rfl⟩:=cH hx;rw[aR]at hk;rw[List.getElem_drop];have h1:=tr hb (n:=n) (k:=nR l n+k) (by omega) (by omega);exact⟨aj _,fun e=>by
  have e2:l[nR l n+k].name=n:=e;rw[e2,jr]at h1;cases h1⟩
theorem KX {l:List Entry}(hb:oo l)(n v s:List UInt8):s∈(kx l n v).map Entry.name ↔ s∈l.map Entry.name++[n]:=by
 rw[aG,aK,aG,aB];constructor
 ·rintro⟨x,hx,rfl⟩;rcases xx hb hx with rfl | ⟨hx,_⟩
  ·exact .inr rfl
  exact .inl ⟨x,hx,rfl⟩
 rintro (⟨x,hx,rfl⟩ | rfl)
 ·by_cases he:x.name=n
  ·exact⟨⟨n,v⟩,by unfold kx;simp,he.symm⟩
  refine⟨x,?_,rfl⟩;obtain⟨i,hi,rfl⟩:=cH hx;unfold kx;rw[aK];by_cases h1:i<lL l n
  ·exact .inl (by
    have:(l.take (lL l n))[i]'(by rw[aw];omega)=l[i]:=List.getElem_take;rw[←this];exact aj _)
  right;refine cR _ ?_;have hi2:nR l n≤i:=by
   unfold nR;by_cases hh:lJ l n=true
   ·rw[aZ hh];obtain⟨h0,hn⟩:=(qt hb n).1 hh;have:i≠lL l n:=fun e=>he (by subst e;exact hn);omega
   rw[aY hh];omega
  have:(l.drop (nR l n))[i - nR l n]'(by rw[aR];omega)=l[i]:=by
   rw[List.getElem_drop];congr 1;omega
  rw[←this];exact aj _
 exact⟨⟨s,v⟩,by unfold kx;simp,rfl⟩
def N2 (l:List Entry)(n v:List UInt8):List Entry:=(kW (l.map Entry.name++[n])).map fun m=>⟨m,if m=n then v else (gI l m).getD []⟩
theorem PK {l:List Entry}(hb:oo l)(n v:List UInt8):N2 l n v=kx l n v:=by
 have h1:kW (l.map Entry.name++[n])=(kx l n v).map Entry.name:=by
  refine I5 (pC _) ?_ fun s=>by rw[mD,KX hb]
  unfold Cb;rw[List.pairwise_map];exact uO hb n v
 unfold N2;rw[h1,cO];have: ∀x∈kx l n v,((fun m=>(⟨m,if m=n then v else (gI l m).getD []⟩:Entry)) ∘ Entry.name) x=x:=fun x hx=>by
  rcases xx hb hx with rfl | ⟨hx,hne⟩
  ·simp
  simp only[Function.comp_apply];rw[aY hne,Gx hb hx];rfl
 rw[List.map_congr_left this,List.map_id']
theorem xm {l:List Entry}(hb:oo l)(n v:List UInt8):(kx l n v).length=if lJ l n=true then l.length else l.length+1:=by
 have:=Ie l n;unfold kx;rw[ag,aH,aw,aR];by_cases hh:lJ l n=true
 ·obtain⟨h0,_⟩:=(qt hb n).1 hh;unfold nR;rw[aZ hh,aZ hh];omega
 unfold nR;rw[aY hh,aY hh];omega
end
section
open Go.TR
def jB (l:List Entry)(n:List UInt8):Int:=if dY l≠0 then dY l else if eP n=true then 0 else 3
def pD (l:List Entry)(n:List UInt8):Nat:=if jB l n=0 then lL l n else 0
def k6 (l:List Entry)(n:List UInt8):Bool:=decide (jB l n=0)&&lJ l n
theorem qu {l:List Entry}{n:List UInt8}(h:jB l n=0):dY l=0∧eP n=true:=by
 unfold jB at h;split at h
 ·rename_i h1;exact absurd h h1
 rename_i h1;split at h
 ·rename_i h2;exact⟨by simpa using h1,h2⟩
 cases h
theorem Pu (i j:Nat)(h:i+j≤100):IntKind.i64.wrap ((IntKind.u64.wrap (IntKind.i64.wrap ((i:Int)+(j:Int)))).fdiv (2 ^ min (1:Int).toNat IntKind.u64.bits))=(((i+j) / 2:Nat):Int):=by
 have e1:IntKind.i64.wrap ((i:Int)+(j:Int))=((i+j:Nat):Int):=by rw[wrap_i64 (by omega) (by omega)];omega
 have e2:IntKind.u64.wrap ((i+j:Nat):Int)=((i+j:Nat):Int):=by rw[nq];omega
 have e3:(2 ^ min (1:Int).toNat IntKind.u64.bits:Int)=((2:Nat):Int):=rfl;rw[e1,e2,e3,←bG,wrap_i64 (by omega) (by omega)]
theorem NL {l:List Entry}(hb:oo l)(hg: ∀x∈l,eP x.name=true){n:List UInt8}(hn:eP n=true){k:Nat}(hk:k<l.length):decide (kP l[k].name n<0)=decide (k<lL l n):=by
 rw[oO (hg _ (aj hk)) hn];by_cases h:k<lL l n
 ·rw[aZ (Fs h),aW h];rfl
 rw[aY (by rw[ID hb (by omega) hk];decide),aX h];split<;>rfl
theorem RW {l:List Entry}(hb:oo l)(hg: ∀x∈l,eP x.name=true){n:List UInt8}(hn:eP n=true):lJ l n=(decide (lL l n<l.length)&&(kP (l.getD (lL l n) ⟨[],[]⟩).name n==0)):=by
 rw[ai,qt hb,aL,av,beq_iff_eq];constructor
 ·rintro⟨h,e⟩;rw[aE,ao h];refine⟨h,?_⟩;show kP l[lL l n].name n=0;rw[oO (hg _ (aj h)) hn,e,aY (by rw[jr];decide),aZ rfl]
 rintro⟨h,e⟩;rw[aE,ao h]at e;refine⟨h,?_⟩;have e:kP l[lL l n].name n=0:=e;rw[oO (hg _ (aj h)) hn,aY (by rw[ID hb (ah _) h];decide)]at e;split at e
 ·assumption
 cases e
attribute [local irreducible] ahead kP eC jQ eP dY gj lL lJ
attribute [local irreducible] vc dW gz fg fD gF gJ gB fJ Plain eD eX dK VS fv fA fG jt fh IntKind.wrap
set_option maxRecDepth 100000
theorem EU (x:Entry)(n:List UInt8)(hx:x.wf)(hn:n.length≤4611686018427387904)(F:Hp):Plain Tryz.prog F 105 [x.v,S n] (i64 (kP x.name n)):=by
 refine dQ (N:=9) (rv:=[.tmp 4]) eW mixed Tryz.func105 rfl rfl rfl rfl rfl ?_;(refine run ?_;repeat intro b);refine dJ _ rfl rfl rfl QD rfl (Ez x.name n hx.name hn F) ?_;(refine run ?_;repeat intro b);rfl
set_option maxHeartbeats 2000000 in
theorem GU (l:List Entry)(n:List UInt8)(h0:dY l=0)(hn:eP n=true)(hw: ∀x∈l,x.wf){p:Option Addr}{c:Nat}{F:Hp}(hf:e9 F p (l.flatMap Entry.row)):Plain Tryz.prog F 104 [.slice p l.length c,S n,.func (.func 105) #[] #[]] (pair (i64 (lL l n:Nat)) (.bool (lJ l n))):=by
 obtain⟨tD,hgood,_⟩:=fP h0;have hb:=qq h0;have hg: ∀x∈l,eP x.name=true:=fun x hx=>(hgood x hx).1;have hlb:=Ie l n;have Du:=fun k hk=>NL (k:=k) hb hg hn hk;have hhas:=RW hb hg hn;have hnl:=Dn hn;refine dQ (N:=49) (rv:=[.tmp 6,.tmp 7]) eW mixed Tryz.func104 rfl rfl rfl rfl rfl ?_;(refine run ?_;repeat intro b);refine eY (fun q:Nat×Nat=>q.1≤lL l n∧lL l n≤q.2∧q.2≤l.length) (fun q=>⟨[(0,.v (.slice p l.length c)),(1,.v (S n)),(2,.v (.func (.func 105) #[] #[])),(8,.v (i64 (l.length:Nat))),(9,.v (i64 (q.1:Nat))),(10,.v (i64 (q.2:Nat)))],F,[],0⟩) (fun q=>q.2 - q.1) (0,l.length) ⟨az _,hlb,ah _⟩ (VS.eL [0,1,2,8,9,10] rfl rfl) ?_;rintro⟨i,j⟩ ⟨h1,h2,h3⟩;dsimp only at h1 h2 h3 ⊢;by_cases hlt:i<j
 ·obtain⟨k,hk⟩: ∃k,k=(i+j) / 2:=⟨_,rfl⟩;have hm:=Pu i j (by omega);rw[←hk]at hm;have hkl:k<l.length:=by omega
  obtain⟨o1,o2⟩:=fa eM (by decide) hf k hkl;have wx:=hw l[k] (aj hkl);have hok:=Du k hkl;generalize l[k]=x at o2 wx hok;(refine run ?_;repeat intro b);refine gw rfl (by omega) ?_;(refine run ?_;repeat intro b);rw[hm];refine dL rfl rfl rfl ⟨by omega,by omega,dR hf (j:=k * 2) (by rw[dO eM];omega)⟩ ?_;refine fB x.row rfl rfl rfl rfl rfl (by rw[ae];exact o1) (by rw[ae];exact o2) ?_;(refine run ?_;repeat intro b);refine dJ _ rfl rfl rfl Qm rfl (EU x n wx (by omega) F) ?_;(refine run ?_;repeat intro b);refine eE (decide (k<lL l n)) (a8 (fun b=>some (EV.v (.bool b))) hok) (fun h=>?_) (fun h=>?_)
  ·have h:=ar h;(refine run ?_;repeat intro b);rw[dT (by omega)];exact fp (k+1,j) ⟨by simp only;omega,h2,h3⟩ (by simp only;omega) (VS.eL [0,1,2,8,9,10] rfl rfl)
  have h:=au h;(refine run ?_;repeat intro b);exact fp (i,k) ⟨h1,by simp only;omega,by simp only;omega⟩ (by simp only;omega) (VS.eL [0,1,2,8,9,10] rfl rfl)
 obtain rfl:i=j:=by omega
 obtain rfl:i=lL l n:=by omega
 have hx: ∃x:Entry,x.wf∧x=l.getD (lL l n) ⟨[],[]⟩∧(lL l n<l.length→(iw p (lL l n * 2)).isSome=true∧ ∀i,i<2→gi F (iw (iw p (lL l n * 2)) i)=x.row[i]?):=by
  by_cases h:lL l n<l.length
  ·obtain⟨o1,o2⟩:=fa eM (by decide) hf (lL l n) h;have e:l.getD (lL l n) ⟨[],[]⟩=l[lL l n]:=by rw[aE,ao h];rfl
   exact⟨l[lL l n],hw _ (aj h),e.symm,fun _=>⟨o1,o2⟩⟩
  refine⟨⟨[],[]⟩,⟨az _,az _⟩,?_,fun h'=>absurd h' h⟩;rw[aE,cB (by omega)];rfl
 obtain⟨x,wx,hxe,hxg⟩:=hx;rw[←hxe]at hhas;have hdk:decide (((lL l n:Nat):Int)<((l.length:Nat):Int))=true→lL l n<l.length:=fun h=>by have:=ar h;omega
 generalize lL l n=m at *;(refine run ?_;repeat intro b);refine gy rfl (by omega) ?_;(refine run ?_;repeat intro b);refine iz rfl rfl rfl rfl rfl (fun hg=>⟨by omega,by have:=hdk hg.1;omega,dR hf (j:=m * 2) (by rw[dO eM];have:=hdk hg.1;omega)⟩) ?_;(refine run ?_;repeat intro b);refine uM x.row rfl rfl rfl rfl rfl rfl rfl (fun hg=>by rw[ae];exact hxg (hdk hg.1)) ?_;(refine run ?_;repeat intro b);refine gm _ rfl rfl rfl rfl Qm rfl rfl (fun _=>EU x n wx (by omega) F) ?_;(refine run ?_;repeat intro b);rw[hhas];have e:decide (((m:Nat):Int)<((l.length:Nat):Int))=decide (m<l.length):=by rw[aV];omega
 simp only[gH,fK,e]
theorem we (l:List Entry)(n:List UInt8)(hl:l.length≤4611686018427387904)(hw: ∀x∈l,x.wf)(hn:n.length≤4611686018427387904){p:Option Addr}{c:Nat}{F:Hp}(hf:e9 F p (l.flatMap Entry.row)):Plain Tryz.prog F 51 [.slice p l.length c,S n] (triple (i64 (pD l n:Nat)) (.bool (k6 l n)) (i64 (jB l n))):=by
 refine dQ (N:=26) (rv:=[.tmp 4,.tmp 5,.tmp 6]) eW mixed Tryz.func51 rfl rfl rfl rfl rfl ?_;(refine run ?_;repeat intro b);refine dJ _ rfl rfl rfl NK rfl (mK l hl hw hf) ?_;(refine run ?_;repeat intro b);refine eE (decide (dY l≠0)) ?_ (fun h=>?_) (fun h=>?_)
 ·refine dV ?_;rw[ai];simp
 ·have h:=ar h;have e:jB l n=dY l:=by unfold jB;rw[aZ h]
  have e2:pD l n=0:=by unfold pD;rw[e,aY h]
  have e3:k6 l n=false:=by unfold k6;rw[e,aX h];rfl
  rw[e,e2,e3];(refine run ?_;repeat intro b);rfl
 have h0:dY l=0:=by simpa using h
 have e:jB l n=if eP n=true then 0 else 3:=by unfold jB;rw[aY (by simpa using h0)]
 (refine run ?_;repeat intro b);refine dJ _ rfl rfl rfl wH rfl (oF n hn F) ?_;cases hg:eP n with
 | false=>
  rw[hg]at e;have e1:jB l n=3:=e;have e2:pD l n=0:=by unfold pD;rw[e1];rfl
  have e3:k6 l n=false:=by unfold k6;rw[e1];rfl
  rw[e1,e2,e3];(refine run ?_;repeat intro b);rfl
 | true=>
  rw[hg]at e;have e1:jB l n=0:=e;have e2:pD l n=lL l n:=by unfold pD;rw[e1];rfl
  have e3:k6 l n=lJ l n:=by unfold k6;rw[e1];rfl
  rw[e1,e2,e3];(refine run ?_;repeat intro b);refine dJ _ rfl rfl rfl Ti rfl (GU l n h0 hg hw hf) ?_;(refine run ?_;repeat intro b);rfl
def yZ (l:List Entry)(n:List UInt8):List UInt8:=if k6 l n=true then (l.getD (lL l n) ⟨[],[]⟩).value else []
theorem Hw (l:List Entry)(n:List UInt8)(hl:l.length≤4611686018427387904)(hw: ∀x∈l,x.wf)(hn:n.length≤4611686018427387904){p:Option Addr}{c:Nat}{F:Hp}(hf:e9 F p (l.flatMap Entry.row)):Plain Tryz.prog F 14 [.slice p l.length c,S n] (triple (S (yZ l n)) (.bool (k6 l n)) (i64 (jB l n))):=by
 refine dQ (N:=26) (rv:=[.tmp 4,.tmp 5,.tmp 6]) eW mixed Tryz.func14 rfl rfl rfl rfl rfl ?_;(refine run ?_;repeat intro b);refine dJ _ rfl rfl rfl TH rfl (we l n hl hw hn hf) ?_;cases hb:k6 l n with
 | false=>
  have e:yZ l n=[]:=by unfold yZ;rw[hb];rfl
  rw[e];(refine run ?_;repeat intro b);rfl
 | true=>
  have h0:jB l n=0:=by
   unfold k6 at hb;simp at hb;exact hb.1
  obtain⟨h1,h2⟩:=qu h0;have hh:lJ l n=true:=by
   unfold k6 at hb;simp at hb;exact hb.2
  obtain⟨hlt,_⟩:=(qt (qq h1) n).1 hh;have e:yZ l n=(l.getD (lL l n) ⟨[],[]⟩).value:=by unfold yZ;rw[hb];rfl
  have e2:pD l n=lL l n:=by unfold pD;rw[h0];rfl
  obtain⟨o1,o2⟩:=fa eM (by decide) hf (lL l n) hlt;rw[e,e2,h0,aE,ao hlt,dz];generalize lL l n=m at *;generalize l[m]=x at o2;(refine run ?_;repeat intro b);refine dL rfl rfl rfl ⟨by omega,by omega,dR hf (j:=m * 2) (by rw[dO eM];omega)⟩ ?_;(refine run ?_;repeat intro b);refine dL rfl rfl rfl (by rw[ae];exact o1) ?_;refine fw (S x.value) rfl rfl rfl rfl (by rw[ae];exact o2 1 (by decide)) ?_;(refine run ?_;repeat intro b);rfl
theorem uS (l:List Entry)(n:List UInt8)(hl:l.length≤4611686018427387904){p:Option Addr}{c:Nat}{F:Hp}(hf:e9 F p (l.flatMap Entry.row)):Plain Tryz.prog F 86 [.slice p l.length c,S n] (pair (S ((gI l n).getD [])) (.bool (gI l n).isSome)):=by
 refine dQ (N:=21) (rv:=[.tmp 4,.tmp 5]) eW mixed Tryz.func86 rfl rfl rfl rfl rfl ?_;(refine run ?_;repeat intro b);refine eY (fun k:Nat=>k≤l.length∧gI l n=gI (l.drop k) n) (fun k=>⟨[(1,.v (S n)),(8,.v (.slice p l.length c)),(9,.v (i64 (l.length:Nat))),(10,.v (i64 (k:Nat)))],F,[],0⟩) (fun k=>l.length - k) 0 ⟨az _,rfl⟩ (VS.eL [1,8,9,10] rfl rfl) ?_;rintro k ⟨hk,hu⟩;by_cases hlt:k<l.length
 ·obtain⟨o1,o2⟩:=fa eM (by decide) hf k hlt;have hst:gI (l.drop k) n=if l[k].name=n then some l[k].value else gI (l.drop (k+1)) n:=by
   rw[aO hlt];unfold gI;rw[List.find?_cons];by_cases h:l[k].name=n<;>simp[h]
  rw[hst]at hu;generalize l[k]=x at o2 hu;(refine run ?_;repeat intro b);refine gw rfl (by omega) ?_;(refine run ?_;repeat intro b);refine dL rfl rfl rfl ⟨by omega,by omega,dR hf (j:=k * 2) (by rw[dO eM];omega)⟩ ?_;refine fB x.row rfl rfl rfl rfl rfl (by rw[ae];exact o1) (by rw[ae];exact o2) ?_;(refine run ?_;repeat intro b);refine eE (decide (x.name=n)) rfl (fun h=>?_) (fun h=>?_)
  ·rw[aZ (ar h)]at hu;rw[hu];(refine run ?_;repeat intro b);rfl
  rw[aY (au h)]at hu;(refine run ?_;repeat intro b);rw[dT (by omega)];exact iK (k+1) [0] [1,8,9,10] ⟨hlt,hu⟩ (by omega) rfl rfl rfl rfl trivial rfl
 have hge:k=l.length:=by omega
 subst hge;rw[cg]at hu;rw[hu];(refine run ?_;repeat intro b);refine gy rfl (by omega) ?_;(refine run ?_;repeat intro b);rfl
end
end Go.Proofs.YthbnddgjkonkdaaGreatDoor
