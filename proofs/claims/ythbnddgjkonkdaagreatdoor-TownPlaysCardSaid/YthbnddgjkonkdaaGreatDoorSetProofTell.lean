/- A part of the proof. -/
import Derived.Test.YthbnddgjkonkdaaGreatDoorSetProofSay
import Derived.Test.YthbnddgjkonkdaaGreatDoorSetPath
set_option linter.unusedVariables false
set_option linter.unusedSimpArgs false
namespace Go.Proofs.YthbnddgjkonkdaaGreatDoor
section
open Go.TR
theorem Kp (p:jo)(k:Nat):ko p (k+1)=if (eC p.name).getD (15 - k) 0=48 then ld (gj (ko p k)) (p.fF.getD k 0) else ld (p.fF.getD k 0) (gj (ko p k)):=rfl
attribute [local irreducible] ahead kP eC jQ eP dY gj jx two ko
attribute [local irreducible] vc dW gz fg fD gF gJ gB fJ Plain eD eX dK VS fv fA fG jt fh IntKind.wrap
set_option maxRecDepth 100000
theorem Mg (p:jo){k n:Nat}(h:k<n):((lK p n).map S).map EV.v=((lK p n).map S).map EV.v∧(((lK p n).map S).map EV.v)[k]? =some (EV.v (S (ko p k))):=by
 refine⟨rfl,?_⟩;rw[aI,aI];unfold lK;rw[aI,List.getElem?_range h];rfl
set_option maxHeartbeats 1000000 in
theorem BR (p:jo)(a:Lay)(hw:p.wf){F:Hp}(hf:p.at F a):Plain Tryz.prog F 156 [p.v a] (pair (u64 (yX p:Nat)) (i64 (fV p))):=by
 refine dQ (N:=21) (rv:=[.tmp 2,.tmp 3]) eW mixed Tryz.func156 rfl rfl rfl rfl rfl ?_;(refine run ?_;repeat intro b);refine fm rfl rfl rfl TC rfl (CG p a hw hf) ?_;rintro _ F1 hF1 ⟨p1,c1,rfl,hc1,hg1⟩;(refine run ?_;repeat intro b);refine eE (decide (fV p≠0)) ?_ (fun h=>?_) (fun h=>?_)
 ·refine dV ?_;rw[ai];simp
 ·have e:yX p=0:=by unfold yX;rw[aY (ar h)]
  rw[e];(refine run ?_;repeat intro b);rfl
 have h0:fV p=0:=by simpa using h
 obtain⟨z1,z2,z3,z4,z5⟩:=kO h0;obtain⟨y1,_,_⟩:=fP z2;have e:yX p=lv p:=by unfold yX;rw[aZ h0]
 have e2:nj p=lK p 17:=by unfold nj;rw[aZ h0]
 have ew:IntKind.i64.wrap (((nj p).length:Int) - 1)=((16:Nat):Int):=by rw[e2,na,wrap_i64 (by omega) (by omega)];rfl
 have g:gi F1 (iw p1 16)=some (S (ko p 16)):=by
  rw[e2]at hg1;refine hg1 16 _ ?_;rw[aI];unfold lK;rw[aI,List.getElem?_range (by decide)];rfl
 rw[e,h0];(refine run ?_;repeat intro b);rw[ew];refine dL rfl rfl rfl ⟨by omega,by rw[e2,na];decide,dR hg1 (j:=16) (by rw[ab,e2,na];decide)⟩ ?_;refine fw (S (ko p 16)) rfl rfl rfl rfl g ?_;(refine run ?_;repeat intro b);refine dJ _ rfl rfl rfl Cu rfl (ly (ko p 16) (by have:=uR y1 16;omega) F1) ?_;(refine run ?_;repeat intro b);rfl
set_option maxHeartbeats 4000000 in
theorem w8 (p:jo)(a:Lay)(hw:p.wf)(h0:fV p=0){F:Hp}(hf:p.at F a):iy Tryz.prog F 245 [p.v a] (fun x F'=>∃p' c',x= .slice p' 17 c'∧e9 F' p' ((lK p 17).map S)):=by
 obtain⟨z1,z2,z3,z4,z5⟩:=kO h0;obtain⟨y1,y2,_⟩:=fP z2;obtain⟨w1,w2,w3,w4,w5⟩:=hw;obtain⟨f1,f2⟩:=hf;refine fW (N:=49) (rv:=[.tmp 2]) eW mixed Tryz.func245 rfl rfl rfl rfl rfl ?_;(refine run ?_;repeat intro b);generalize b=bp;refine dJ _ rfl rfl rfl QM rfl (wB p.gg y1 w3 f1) ?_;(refine run ?_;repeat intro b);refine dJ _ rfl rfl rfl wq rfl (lq p.name w1 F) ?_;(refine run ?_;repeat intro b);have e0:ju p.gg=ko p 0:=by unfold ko;rfl
 rw[e0];refine eY (fun q:Nat×Nat×Nat=>q.1≤16∧q.1+1≤q.2.2) (fun q=>⟨[(1,.loc 0 0),(3,.row 2 0 (q.1+1) q.2.2),(4,.v (S (eC p.name))),(14,.v (i64 (q.1:Nat)))],F,[(2,⟨some q.2.1,((lK p (q.1+1)).map S).map EV.v,9,q.2.2 * 1⟩),(0,⟨some bp,[.v (S p.name),.v (.slice a.e p.gg.length a.ce),.v (.slice a.s p.fF.length a.cs)],45,3⟩)],3⟩) (fun q=>16 - q.1) (0,b,1) ⟨az _,ah _⟩ (VS.mP (nx':=3) [(1,2),(0,0)] [1,3,4,14] [(2,⟨some b,((lK p (0+1)).map S).map EV.v,9,1⟩),(0,⟨some bp,[.v (S p.name),.v (.slice a.e p.gg.length a.ce),.v (.slice a.s p.fF.length a.cs)],45,3⟩)] (dX rfl (dX rfl trivial)) rfl rfl rfl rfl rfl rfl rfl) ?_;rintro⟨k,gq,cap⟩ ⟨hk,hcap⟩;dsimp only at hk hcap ⊢;have hsl:=na p (k+1);by_cases aab:k<16
 ·have hlt:k<p.fF.length:=by omega
  have g:=gS f2 (j:=k) (by rw[ab];exact hlt);rw[cG]at g;have hb:=rk p.name (15 - k) (by omega);have YZ:=uR y1 k;have hm:=z5 _ (aj hlt);have hst:ko p (k+1)=if (eC p.name).getD (15 - k) 0=48 then ld (gj (ko p k)) p.fF[k] else ld p.fF[k] (gj (ko p k)):=by
   have:p.fF[k]=p.fF.getD k 0:=by rw[aE,ao hlt];rfl
   rw[this];exact Kp p k
  have hsn:=AL p (k+1);have hmm:MM=2305843009213693951:=rfl;have hmk:=ln (ko p k);have ei:IntKind.i64.wrap (15 - (k:Int))=((15 - k:Nat):Int):=by rw[wrap_i64 (by omega) (by omega)];omega
  have hpl:=jN p.name;have hcells:(((lK p (k+1)).map S).map EV.v).take ((k+1) * 1)++[EV.v (S (ko p (k+1)))]=((lK p (k+1+1)).map S).map EV.v:=by
   rw[hsn,an (by simp[hsl])]
  have hget:=(Mg p (k:=k) (n:=k+1) (by omega)).2;generalize p.fF[k]=m at g hm hst;generalize eC p.name=W at hb hst hpl;(refine run ?_;repeat intro b);refine gw rfl (by omega) ?_;(refine run ?_;repeat intro b);refine dL rfl rfl rfl ⟨by omega,by omega,_,_,rfl,rfl⟩ ?_;refine om (S (ko p k)) rfl rfl rfl rfl rfl (by rw[ae,aP];show (((lK p (k+1)).map S).map EV.v)[k * 1]? =_;rw[aA];exact hget) ?_;(refine run ?_;repeat intro b);refine dJ _ rfl rfl rfl vW rfl (jX (ko p k) (by omega) F) ?_;(refine run ?_;repeat intro b);rw[ei];refine dL rfl rfl rfl ⟨by omega,by simp only[ga];omega⟩ ?_;generalize aas:gj (ko p k)=mk at hmk hst;rcases hb with h | h
  ·rw[aZ h]at hst;rw[ae,ga,h];(refine run ?_;repeat intro b);refine dL rfl rfl rfl ⟨by omega,by omega,dR f2 (j:=k) (by rw[ab];exact hlt)⟩ ?_;refine fw (mu m) rfl rfl rfl rfl (by rw[ae,aA];exact g) ?_;(refine run ?_;repeat intro b);refine dJ _ rfl rfl rfl Mw rfl (rO mk m (by omega) (by omega) F) ?_;rw[←hst];(refine run ?_;repeat intro b);refine fy rfl rfl rfl rfl rfl rfl rfl rfl (ff rfl rfl) tl (fun h=>by cases h) hcap rfl (by simp[hsl]) (by show _ * 16≤_;omega) (fun h=>by cases h) (fun _ b2 c2 hc2=>?_);(refine run ?_;repeat intro b);rw[dT (by omega)];exact fH (k+1,b2,c2) 2 [(4,2),(0,0)] [1,3,4,14] [(2,⟨some b2,((lK p (k+1+1)).map S).map EV.v,9,c2 * 1⟩),(0,⟨some bp,[.v (S p.name),.v (.slice a.e p.gg.length a.ce),.v (.slice a.s p.fF.length a.cs)],45,3⟩)] ⟨by omega,hc2⟩ (by simp only;omega) (aM _ _)
    (fi ⟨_,rfl,rfl,rfl,rfl,.inl ⟨hcells.symm,fun e he=>fz _ e (hcells ▸ he)⟩⟩ (dX rfl trivial)) rfl rfl rfl rfl rfl rfl rfl
  rw[aY (by rw[h];decide)]at hst;rw[ae,ga,h];(refine run ?_;repeat intro b);refine dL rfl rfl rfl ⟨by omega,by omega,dR f2 (j:=k) (by rw[ab];exact hlt)⟩ ?_;refine fw (mu m) rfl rfl rfl rfl (by rw[ae,aA];exact g) ?_;(refine run ?_;repeat intro b);refine dJ _ rfl rfl rfl Mw rfl (rO m mk (by omega) (by omega) F) ?_;rw[←hst];(refine run ?_;repeat intro b);refine fy rfl rfl rfl rfl rfl rfl rfl rfl (ff rfl rfl) tl (fun h=>by cases h) hcap rfl (by simp[hsl]) (by show _ * 16≤_;omega) (fun h=>by cases h) (fun _ b2 c2 hc2=>?_);(refine run ?_;repeat intro b);rw[dT (by omega)];exact fH (k+1,b2,c2) 2 [(4,2),(0,0)] [1,3,4,14] [(2,⟨some b2,((lK p (k+1+1)).map S).map EV.v,9,c2 * 1⟩),(0,⟨some bp,[.v (S p.name),.v (.slice a.e p.gg.length a.ce),.v (.slice a.s p.fF.length a.cs)],45,3⟩)] ⟨by omega,hc2⟩ (by simp only;omega) (aM _ _)
   (fi ⟨_,rfl,rfl,rfl,rfl,.inl ⟨hcells.symm,fun e he=>fz _ e (hcells ▸ he)⟩⟩ (dX rfl trivial)) rfl rfl rfl rfl rfl rfl rfl
 have hge:k=16:=by omega
 subst hge;(refine run ?_;repeat intro b);refine eU ?_;refine VS.freeze 2 [1,2] rfl (eH _) rfl rfl fun F' hs1 hf1=>VS.iB [0] rfl (VS.id ⟨_,rfl,rfl,some ⟨gq,0,none⟩,cap,rfl,hf1⟩)
theorem xe (p:jo)(a:Lay)(hw:p.wf)(h0:fV p=0){F:Hp}(hf:p.at F a):Plain Tryz.prog F 187 [p.v a] (u64 (lv p:Nat)):=by
 obtain⟨z1,z2,z3,z4,z5⟩:=kO h0;obtain⟨y1,_,_⟩:=fP z2;refine dQ (N:=8) (rv:=[.tmp 2]) eW mixed Tryz.func187 rfl rfl rfl rfl rfl ?_;(refine run ?_;repeat intro b);refine fm rfl rfl rfl Vp rfl (w8 p a hw h0 hf) ?_;rintro _ F1 hF1 ⟨p1,c1,rfl,hg1⟩;have g:gi F1 (iw p1 16)=some (S (ko p 16)):=by
  refine hg1 16 _ ?_;rw[aI];unfold lK;rw[aI,List.getElem?_range (by decide)];rfl
 (refine run ?_;repeat intro b);refine dL rfl rfl rfl ⟨by omega,by omega,dR hg1 (j:=16) (by rw[ab,na];decide)⟩ ?_;refine fw (S (ko p 16)) rfl rfl rfl rfl g ?_;(refine run ?_;repeat intro b);refine dJ _ rfl rfl rfl vW rfl (jX (ko p 16) (by have:=uR y1 16;omega) F1) ?_;(refine run ?_;repeat intro b);rfl
end
section
open Go.TR
def GB (a b:List (List UInt8)):Nat→List UInt8×List UInt8×Int
 | 0=>([],[],5)
 | k+1=>if a.getD k []=b.getD k [] then GB a b k else if gj (a.getD k [])=gj (b.getD k []) then (a.getD k [],b.getD k [],0) else ([],[],5)
def Rm (a b:List (List UInt8)):List UInt8×List UInt8×Int:=
 if a.length=0∨a.length≠b.length then ([],[],3) else if gj (a.getD (a.length - 1) [])≠gj (b.getD (b.length - 1) []) then ([],[],8) else GB a b a.length
@[reducible] def clV (x:List UInt8×List UInt8×Int):Value:=triple (S x.1) (S x.2.1) (i64 x.2.2)
theorem CM {F:Hp}{p:Option Addr}{l:List (List UInt8)}(hf:e9 F p (l.map S)){k:Nat}(h:k<l.length):gi F (iw p k)=some (S (l.getD k [])):=by
 have:=gS hf (j:=k) (by rw[ab];exact h);rw[cG]at this;rw[aE,ao h];exact this
attribute [local irreducible] gj GB eC eP ko fV
attribute [local irreducible] vc dW gz fg fD gF gJ gB fJ Plain eD eX dK VS fv fA fG jt fh IntKind.wrap
set_option maxRecDepth 100000
def Nd (p q:jo):Int:=if fV p≠0 then fV p else if fV q≠0 then fV q else if p.name≠q.name then 3 else 0
def XA (p q:jo):List UInt8×List UInt8×Int:=if Nd p q≠0 then ([],[],Nd p q) else Rm (lK p 17) (lK q 17)
end
section
open Go.TR
theorem DT {p:Option (List UInt8)}{l:List (List UInt8)}(h: ∀s∈l,s.length≤4611686018427387904):((mq p l).getD []).length≤4611686018427387904:=by
 have key:=qz p l none (fun q h=>by cases h);unfold mq;cases hb:l.foldl (mG p) none with
 | none=>exact az _
 | some q=>
  rw[hb]at key;rcases key.1 with e | e
  ·cases e
  exact h q e
attribute [local irreducible] ahead behind mq kW
attribute [local irreducible] vc dW gz fg fD gF gJ gB fJ Plain eD eX dK VS fv fA fG jt fh IntKind.wrap
set_option maxRecDepth 100000
set_option maxHeartbeats 4000000 in
theorem tw (xs:List (List UInt8))(hn:xs.length * 16≤140737488355328)(hs: ∀s∈xs,s.length≤4611686018427387904){p:Option Addr}{c:Nat}{F:Hp}(hf:e9 F p (xs.map S)):iy Tryz.prog F 184 [.slice p xs.length c] (fun x F'=>∃p' c',x= .slice p' (kW xs).length c'∧e9 F' p' ((kW xs).map S)):=by
 refine fW (N:=45) (rv:=[.tmp 2]) eW mixed Tryz.func184 rfl rfl rfl rfl rfl ?_;have hnext:=Ge xs;have hLn:=u4 xs;have hLs: ∀s∈kW xs,s.length≤4611686018427387904:=fun s h=>hs s ((mD xs s).1 h);generalize kW xs=L at hnext hLn hLs;(refine run ?_;repeat intro b);refine eY (fun q:Nat×Option Nat×Nat=>q.1≤L.length∧(q.2.1=none→q.1=0∧q.2.2=0)∧q.1≤q.2.2)
  (fun q=>⟨[(0,.v (.slice p xs.length c)),(3,.row 0 0 q.1 q.2.2)],F,[(0,⟨q.2.1,((L.take q.1).map S).map EV.v,9,q.2.2 * 1⟩)],1⟩) (fun q=>L.length - q.1) (0,none,0) ⟨az _,fun _=>⟨rfl,rfl⟩,ah _⟩ (VS.trans (VS.og 3 9 [0] rfl rfl (VS.id (VS.eL [0,3] rfl rfl)))) ?_
 rintro⟨k,gq,cap⟩ ⟨h1,h3,h4⟩;dsimp only at h1 h3 h4 ⊢;have hnx:mq (if k=0 then none else L[k - 1]?) xs=L[k]? :=by
  rcases hnext k with h | h
  ·exact h
  omega
 cases k with
 | zero=>
  rw[aZ rfl]at hnx;(refine run ?_;repeat intro b);have hb0:mq none (xs.take 0)=none:=by rw[df];unfold mq;rfl
  refine eY (fun j:Nat=>j≤xs.length) (fun j=>⟨[(0,.v (.slice p xs.length c)),(3,.row 0 0 0 cap),(4,.v (S ((mq none (xs.take j)).getD []))),(5,.v (.bool (mq none (xs.take j)).isSome)),(8,.v (.slice p xs.length c)),(9,.v (i64 (xs.length:Nat))),(10,.v (i64 (j:Nat)))],F,[(0,⟨gq,((L.take 0).map S).map EV.v,9,cap * 1⟩)],1⟩) (fun j=>xs.length - j) 0 (az _) (VS.eL [0,3,4,5,8,9,10] rfl (by rw[hb0];rfl)) ?_;intro j hj;by_cases hlt:j<xs.length
  ·have g:=CM hf (k:=j) hlt;have hsn:=zo none hlt;have hls:=hs xs[j] (aj hlt);have hbl:=DT (p:=none) (l:=xs.take j) (fun s h=>hs s (cY h));have hgd:xs.getD j []=xs[j]:=by rw[aE,ao hlt];rfl
   rw[hgd]at g;generalize xs[j]=s at g hsn hls;generalize mq none (xs.take j)=vX at hsn hbl;(refine run ?_;repeat intro b);refine gw rfl (by omega) ?_;(refine run ?_;repeat intro b);refine dL rfl rfl rfl ⟨by omega,by omega,dR hf (j:=j) (by rw[ab];omega)⟩ ?_;refine fw (S s) rfl rfl rfl rfl (by rw[ae,aA];exact g) ?_;(refine run ?_;repeat intro b);refine gm _ rfl rfl rfl rfl Jh rfl rfl (fun _=>uW s (vX.getD []) hls hbl F) ?_;(refine run ?_;repeat intro b);refine eE (behind none s&&vX.all fun q=>ahead s q) ?_ (fun h=>?_) (fun h=>?_)
   ·refine dV ?_;unfold behind;cases vX<;>simp[fK,fx]
   ·have e:mG none vX s=some s:=by unfold mG;rw[aZ (by simpa using h)]
    (refine run ?_;repeat intro b);rw[dT (by omega)];exact fp (j+1) hlt (by omega) (VS.eL [0,3,4,5,8,9,10] rfl (by rw[hsn,e];rfl))
   have e:mG none vX s=vX:=by unfold mG;rw[aY (by simpa using h)]
   (refine run ?_;repeat intro b);rw[dT (by omega)];exact fp (j+1) hlt (by omega) (VS.eL [0,3,4,5,8,9,10] rfl (by rw[hsn,e]))
  skip
  have hge:j=xs.length:=by omega
  subst hge;rw[aD,hnx];have hlk:(L.take 0).length=0:=by rw[aw];omega
  (refine run ?_;repeat intro b);refine gy rfl (by omega) ?_;cases hLk:L[0]? with
  | none=>
   have hll:L.length≤0:=List.getElem?_eq_none_iff.1 hLk;have SU:L.length=0:=by omega
   (refine run ?_;repeat intro b);refine eU (VS.shut (fun p'=>[(2,.v (.slice p' 0 cap))]) 0 [2] rfl (eH _) (fun _=>rfl) rfl (fun _=>rfl) rfl fun F' p' hF hg=>⟨_,rfl,rfl,p',cap,by rw[SU];rfl,?_⟩);rw[an hll]at hg;exact hg
  | some s=>
   obtain⟨YY,hks⟩:=cC.1 hLk;have hsn:((L.take (0+1)).map S).map EV.v=((L.take 0).map S).map EV.v++[EV.v (S s)]:=by
    rw[al YY,hks];simp
   (refine run ?_;repeat intro b);refine fy rfl rfl rfl rfl rfl rfl rfl rfl (ff rfl rfl) tl h3 h4 rfl (by rw[ab,ab,hlk,aA];exact ah _) (by show _ * 16≤_;omega) (fun h=>by cases h) (fun _ b2 c2 hc2=>?_);(refine run ?_;repeat intro b);have hcells:(((L.take 0).map S).map EV.v).take (0 * 1)++[EV.v (S s)]=((L.take (0+1)).map S).map EV.v:=by
    rw[hsn,an (by rw[ab,ab,hlk,aA];exact ah _)]
   exact fH (0+1,some b2,c2) 0 [(2,0)] [0,3] [(0,⟨some b2,((L.take (0+1)).map S).map EV.v,9,c2 * 1⟩)] ⟨by omega,(fun h=>by cases h),hc2⟩ (by simp only;omega) (aM _ _)
    (fi ⟨_,rfl,rfl,rfl,rfl,.inl ⟨hcells.symm,fun e he=>fz _ e (hcells ▸ he)⟩⟩ trivial) rfl rfl rfl rfl rfl rfl rfl
 | succ k=>
  have hkl:k<L.length:=by omega
  have hget:(((L.take (k+1)).map S).map EV.v)[k]? =some (EV.v (S L[k])):=by
   rw[aI,aI,cE,aZ (by omega),ao hkl];rfl
  have hll:=hLs L[k] (aj hkl);rw[aY (by omega),Nat.add_sub_cancel,ao hkl]at hnx;generalize L[k]=last at hnx hget hll;have ew:IntKind.i64.wrap (((k+1:Nat):Int) - 1)=(k:Int):=by rw[wrap_i64 (by omega) (by omega)];omega
  cases gq with
  | none=>exact absurd (h3 rfl).1 (by omega)
  | some gq=>
   (refine run ?_;repeat intro b);have hb0:mq (some last) (xs.take 0)=none:=by rw[df];unfold mq;rfl
   refine eY (fun j:Nat=>j≤xs.length) (fun j=>⟨[(0,.v (.slice p xs.length c)),(3,.row 0 0 (k+1) cap),(4,.v (S ((mq (some last) (xs.take j)).getD []))),(5,.v (.bool (mq (some last) (xs.take j)).isSome)),(8,.v (.slice p xs.length c)),(9,.v (i64 (xs.length:Nat))),(10,.v (i64 (j:Nat)))],F,[(0,⟨some gq,((L.take (k+1)).map S).map EV.v,9,cap * 1⟩)],1⟩) (fun j=>xs.length - j) 0 (az _) (VS.eL [0,3,4,5,8,9,10] rfl (by rw[hb0];rfl)) ?_;intro j hj;by_cases hlt:j<xs.length
   ·have g:=CM hf (k:=j) hlt;have hsn:=zo (some last) hlt;have hls:=hs xs[j] (aj hlt);have hbl:=DT (p:=(some last)) (l:=xs.take j) (fun s h=>hs s (cY h));have hgd:xs.getD j []=xs[j]:=by rw[aE,ao hlt];rfl
    rw[hgd]at g;generalize xs[j]=s at g hsn hls;generalize mq (some last) (xs.take j)=vX at hsn hbl;(refine run ?_;repeat intro b);refine gw rfl (by omega) ?_;(refine run ?_;repeat intro b);refine dL rfl rfl rfl ⟨by omega,by omega,dR hf (j:=j) (by rw[ab];omega)⟩ ?_;refine fw (S s) rfl rfl rfl rfl (by rw[ae,aA];exact g) ?_;(refine run ?_;repeat intro b);rw[ew];refine dL rfl rfl rfl ⟨by omega,by omega,_,_,rfl,rfl⟩ ?_;(refine run ?_;repeat intro b);refine om (S last) rfl rfl rfl rfl rfl (by rw[ae,aP];show (((L.take (k+1)).map S).map EV.v)[k * 1]? =_;rw[aA];exact hget) ?_;(refine run ?_;repeat intro b);refine dJ _ rfl rfl rfl Jh rfl (uW last s hll hls F) ?_;(refine run ?_;repeat intro b);refine gm _ rfl rfl rfl rfl Jh rfl rfl (fun _=>uW s (vX.getD []) hls hbl F) ?_;(refine run ?_;repeat intro b);refine eE (behind (some last) s&&vX.all fun q=>ahead s q) ?_ (fun h=>?_) (fun h=>?_)
    ·refine dV ?_;unfold behind;cases vX<;>simp[fK,fx]
    ·have e:mG (some last) vX s=some s:=by unfold mG;rw[aZ (by simpa using h)]
     (refine run ?_;repeat intro b);rw[dT (by omega)];exact fp (j+1) hlt (by omega) (VS.eL [0,3,4,5,8,9,10] rfl (by rw[hsn,e];rfl))
    have e:mG (some last) vX s=vX:=by unfold mG;rw[aY (by simpa using h)]
    (refine run ?_;repeat intro b);rw[dT (by omega)];exact fp (j+1) hlt (by omega) (VS.eL [0,3,4,5,8,9,10] rfl (by rw[hsn,e]))
   skip
   have hge:j=xs.length:=by omega
   subst hge;rw[aD,hnx];have hlk:(L.take (k+1)).length=(k+1):=by rw[aw];omega
   (refine run ?_;repeat intro b);refine gy rfl (by omega) ?_;cases hLk:L[(k+1)]? with
   | none=>
    have hll:L.length≤(k+1):=List.getElem?_eq_none_iff.1 hLk;have SU:L.length=(k+1):=by omega
    (refine run ?_;repeat intro b);refine eU (VS.shut (fun p'=>[(2,.v (.slice p' (k+1) cap))]) 0 [2] rfl (eH _) (fun _=>rfl) rfl (fun _=>rfl) rfl fun F' p' hF hg=>⟨_,rfl,rfl,p',cap,by rw[SU];rfl,?_⟩);rw[an hll]at hg;exact hg
   | some s=>
    obtain⟨YY,hks⟩:=cC.1 hLk;have hsn:((L.take ((k+1)+1)).map S).map EV.v=((L.take (k+1)).map S).map EV.v++[EV.v (S s)]:=by
     rw[al YY,hks];simp
    (refine run ?_;repeat intro b);refine fy rfl rfl rfl rfl rfl rfl rfl rfl (ff rfl rfl) tl h3 h4 rfl (by rw[ab,ab,hlk,aA];exact ah _) (by show _ * 16≤_;omega) (fun h=>by cases h) (fun _ b2 c2 hc2=>?_);(refine run ?_;repeat intro b);have hcells:(((L.take (k+1)).map S).map EV.v).take ((k+1) * 1)++[EV.v (S s)]=((L.take ((k+1)+1)).map S).map EV.v:=by
     rw[hsn,an (by rw[ab,ab,hlk,aA];exact ah _)]
    exact fH ((k+1)+1,some b2,c2) 0 [(2,0)] [0,3] [(0,⟨some b2,((L.take ((k+1)+1)).map S).map EV.v,9,c2 * 1⟩)] ⟨by omega,(fun h=>by cases h),hc2⟩ (by simp only;omega) (aM _ _)
     (fi ⟨_,rfl,rfl,rfl,rfl,.inl ⟨hcells.symm,fun e he=>fz _ e (hcells ▸ he)⟩⟩ trivial) rfl rfl rfl rfl rfl rfl rfl
end
section
open Go.TR
def Ls (l:List Entry)(n:List UInt8):Int:=if jB l n≠0 then jB l n else if lJ l n=true then 0 else 5
def QS (l:List Entry)(n:List UInt8):List Entry:=if Ls l n=0 then IJ l n else []
attribute [local irreducible] ahead kP eC jQ eP dY gj lL lJ jB eR
attribute [local irreducible] vc dW gz fg fD gF gJ gB fJ Plain eD eX dK VS fv fA fG jt fh IntKind.wrap
set_option maxRecDepth 100000
set_option maxHeartbeats 4000000
end
section
open Go.TR
theorem Mk (l:List Entry)(x:Entry):jZ (l++[x])=jZ l++x.row.map EV.v:=by
 rw[ux];unfold jZ;simp
theorem Po (rs:RL)(x:Entry):ll rs (x.row.map EV.v):=by
 have:=CW rs [x];unfold jZ at this;simpa using this
attribute [local irreducible] ahead kP eC jQ eP dY gj lL lJ jB eR IJ gI
attribute [local irreducible] vc dW gz fg fD gF gJ gB fJ Plain eD eX dK VS fv fA fG jt fh IntKind.wrap
set_option maxRecDepth 100000
set_option maxHeartbeats 4000000
def B5 (l:List Entry)(n v m:List UInt8):List UInt8:=if m=n then v else (gI l m).getD []
def ua (l:List Entry)(n v:List UInt8)(ms:List (List UInt8)):List Entry:=ms.map fun m=>⟨m,B5 l n v m⟩
theorem Jw {l:List Entry}{n v:List UInt8}{ms:List (List UInt8)}{k:Nat}(h:k<ms.length):ua l n v (ms.take (k+1))=ua l n v (ms.take k)++[⟨ms[k],B5 l n v ms[k]⟩]:=by
 unfold ua;rw[al h,aF];rfl
theorem x6 {l:List Entry}{k:Nat}(h:k<l.length):(((l.take (k+1)).map Entry.name).map S).map EV.v=(((l.take k).map Entry.name).map S).map EV.v++[EV.v (S l[k].name)]:=by
 rw[al h];simp only[aF,a9,cP]
theorem Hg (l:List Entry)(n v:List UInt8)(hb:oo l)(hl:l.length≤1000000)(hw: ∀x∈l,x.wf)(hn:n.length≤4611686018427387904){p:Option Addr}{c:Nat}{F:Hp}(hf:e9 F p (l.flatMap Entry.row)):iy Tryz.prog F 131 [.slice p l.length c,S n,S v] (fun x F'=>∃p' c',x= .slice p' (kx l n v).length c'∧gX F' 122 2 p' (kx l n v).length c' ((kx l n v).flatMap Entry.row)):=by
 refine fW (N:=55) (rv:=[.tmp 6]) eW mixed Tryz.func131 rfl rfl rfl rfl rfl ?_;(refine run ?_;repeat intro b);refine eY (fun q:Nat×Option Nat×Nat=>q.1≤l.length∧(q.2.1=none→q.1=0∧q.2.2=0)∧q.1≤q.2.2)
  (fun q=>⟨[(7,.row 0 0 q.1 q.2.2),(0,.v (.slice p l.length c)),(1,.v (S n)),(2,.v (S v)),(15,.v (.slice p l.length c)),(16,.v (i64 (l.length:Nat))),(17,.v (i64 (q.1:Nat)))],F,[(0,⟨q.2.1,(((l.take q.1).map Entry.name).map S).map EV.v,9,q.2.2 * 1⟩)],1⟩) (fun q=>l.length - q.1) (0,none,0) ⟨az _,fun _=>⟨rfl,rfl⟩,ah _⟩ (VS.og 7 9 [0,1,2,15,16,17] rfl rfl (VS.id rfl)) ?_
 rintro⟨k,gq,cap⟩ ⟨hk,h3,h4⟩;dsimp only at hk h3 h4 ⊢;have hlk:((((l.take k).map Entry.name).map S).map EV.v).length=k:=by rw[ab,ab,ab,aw];omega
 by_cases hlt:k<l.length
 ·obtain⟨o1,o2⟩:=fa eM (by decide) hf k hlt;have hsn:=x6 hlt;generalize l[k]=x at o2 hsn;(refine run ?_;repeat intro b);refine gw rfl (by omega) ?_;(refine run ?_;repeat intro b);refine dL rfl rfl rfl ⟨by omega,by omega,dR hf (j:=k * 2) (by rw[dO eM];omega)⟩ ?_;refine fB x.row rfl rfl rfl rfl rfl (by rw[ae];exact o1) (by rw[ae];exact o2) ?_;(refine run ?_;repeat intro b);refine fy rfl rfl rfl rfl rfl rfl rfl rfl (ff rfl rfl) tl h3 h4 rfl (by rw[hlk,aA];exact ah _) (by show _ * 16≤_;omega) (fun h=>by cases h) (fun _ b2 c2 hc2=>?_);(refine run ?_;repeat intro b);have hcells:((((l.take k).map Entry.name).map S).map EV.v).take (k * 1)++[EV.v (S x.name)]=(((l.take (k+1)).map Entry.name).map S).map EV.v:=by
   rw[hsn,an (by rw[hlk,aA];exact ah _)]
  rw[dT (by omega)];exact fH (k+1,some b2,c2) 0 [(3,0)] [7,0,1,2,15,16,17] [(0,⟨some b2,(((l.take (k+1)).map Entry.name).map S).map EV.v,9,c2 * 1⟩)] ⟨hlt,(fun h=>by cases h),hc2⟩ (by simp only;omega) (aM _ _)
   (fi ⟨_,rfl,rfl,rfl,rfl,.inl ⟨hcells.symm,fun e he=>fz _ e (hcells ▸ he)⟩⟩ trivial) rfl rfl rfl rfl rfl rfl rfl
 have hge:k=l.length:=by omega
 subst hge;rw[aD]at hlk ⊢;(refine run ?_;repeat intro b);refine gy rfl (by omega) ?_;(refine run ?_;repeat intro b);refine fy rfl rfl rfl rfl rfl rfl rfl rfl (ff rfl rfl) tl h3 h4 rfl (by rw[hlk,aA];exact ah _) (by show _ * 16≤_;omega) (fun h=>by cases h) (fun _ b2 c2 hc2=>?_);have hcells:(((l.map Entry.name).map S).map EV.v).take (l.length * 1)++[EV.v (S n)]=((l.map Entry.name++[n]).map S).map EV.v:=by
  rw[an (by rw[hlk,aA];exact ah _)];simp
 rw[hcells];refine fX (VS.freeze 2 [0,1,2,10,30] rfl (eH _) rfl rfl fun F1 hs1 hf1=>VS.id ?_);have hx:(l.map Entry.name++[n]).length=l.length+1:=by simp
 have Du:=tw (l.map Entry.name++[n]) (c:=c2) (by rw[hx];omega) (fun s hs=>by
  rcases aK.1 hs with hs | hs
  ·obtain⟨x,hx,rfl⟩:=aG.1 hs;exact (hw x hx).name
  rw[aB]at hs;rw[hs];exact hn) hf1
 have hom:=u4 (l.map Entry.name++[n]);have YU:kx l n v=ua l n v (kW (l.map Entry.name++[n])):=(PK hb n v).symm;rw[hx]at Du hom;rw[YU];have hM0:0<(kW (l.map Entry.name++[n])).length:=List.length_pos_of_mem ((mD _ n).2 (by simp));generalize kW (l.map Entry.name++[n])=M at *;refine fm rfl rfl rfl M0 rfl Du ?_;rintro _ F2 hF2 ⟨p2,c3,rfl,hg2⟩;have hf2:=eu (hs1.trans hF2) hf;(refine run ?_;repeat intro b);refine eY (fun q:Nat×Option Nat×Nat=>q.1≤M.length∧(q.2.1=none→q.1=0∧q.2.2=0)∧q.1≤q.2.2)
  (fun q=>⟨[(10,.row 3 0 q.1 q.2.2),(0,.v (.slice p l.length c)),(1,.v (S n)),(2,.v (S v)),(31,.v (.slice p2 M.length c3)),(32,.v (i64 (M.length:Nat))),(33,.v (i64 (q.1:Nat)))],F2,[(3,⟨q.2.1,jZ (ua l n v (M.take q.1)),122,q.2.2 * 2⟩)],4⟩) (fun q=>M.length - q.1) (0,none,0) ⟨az _,fun _=>⟨rfl,rfl⟩,ah _⟩ (VS.iB [1] rfl (VS.og 10 122 [0,1,2,31,32,33] rfl rfl (VS.id rfl))) ?_
 rintro⟨k,gq,cap⟩ ⟨hk,h3,h4⟩;dsimp only at hk h3 h4 ⊢;have hlk:(jZ (ua l n v (M.take k))).length=k * 2:=by
  rw[sj];unfold ua;rw[ab,aw];congr 1;omega
 by_cases hlt:k<M.length
 ·have g:=CM hg2 (k:=k) hlt;have hgd:M.getD k []=M[k]:=by rw[aE,ao hlt];rfl
  rw[hgd]at g;have hsn:=Jw (l:=l) (n:=n) (v:=v) hlt;generalize M[k]=m at g hsn;(refine run ?_;repeat intro b);refine gw rfl (by omega) ?_;(refine run ?_;repeat intro b);refine dL rfl rfl rfl ⟨by omega,by omega,dR hg2 (j:=k) (by rw[ab];omega)⟩ ?_;refine fw (S m) rfl rfl rfl rfl (by rw[ae,aA];exact g) ?_;(refine run ?_;repeat intro b);refine dJ _ rfl rfl rfl VI rfl (uS l m (by omega) hf2) ?_;(refine run ?_;repeat intro b);refine lp (β:=Unit) (fun _=>True) (fun _=>⟨[(10,.row 3 0 k cap),(0,.v (.slice p l.length c)),(1,.v (S n)),(2,.v (S v)),(31,.v (.slice p2 M.length c3)),(32,.v (i64 (M.length:Nat))),(12,.v (S m)),(13,.v (S (B5 l n v m))),(33,.v (i64 (k:Nat)))],F2,[(3,⟨gq,jZ (ua l n v (M.take k)),122,cap * 2⟩)],4⟩) rfl (fun _ _=>?_) (fun vb kn kr ke=>?_)
  ·(refine run ?_;repeat intro b);refine fy rfl rfl rfl rfl rfl rfl rfl rfl (ff rfl rfl) (Po _ ⟨m,B5 l n v m⟩) h3 h4 rfl (by rw[hlk];exact ah _) (by show _ * 32≤_;omega) (fun h=>by cases h) (fun _ b4 c4 hc4=>?_);(refine run ?_;repeat intro b);have hcells:(jZ (ua l n v (M.take k))).take (k * 2)++(⟨m,B5 l n v m⟩:Entry).row.map EV.v=jZ (ua l n v (M.take (k+1))):=by
    rw[hsn,Mk,an (by rw[hlk];exact ah _)]
   rw[dT (by omega)];exact fH (k+1,some b4,c4) 3 [(5,3)] [10,0,1,2,31,32,33] [(3,⟨some b4,jZ (ua l n v (M.take (k+1))),122,c4 * 2⟩)] ⟨hlt,(fun h=>by cases h),hc4⟩ (by simp only;omega) (aM _ _)
    (fi ⟨_,rfl,rfl,rfl,rfl,.inl ⟨hcells.symm,fun e he=>fz _ e (hcells ▸ he)⟩⟩ trivial) rfl rfl rfl rfl rfl rfl rfl
  refine eE (decide (m=n)) rfl (fun h=>?_) (fun h=>?_)
  ·have e:B5 l n v m=v:=by unfold B5;rw[aZ (ar h)]
   (refine run ?_;repeat intro b);exact kn _ (VS.eL [10,0,1,2,31,32,12,13,33] rfl ⟨(),trivial,by rw[e]⟩)
  have e:B5 l n v m=(gI l m).getD []:=by unfold B5;rw[aY (au h)]
  (refine run ?_;repeat intro b);exact kn _ (VS.eL [10,0,1,2,31,32,12,13,33] rfl ⟨(),trivial,by rw[e]⟩)
 have hge:k=M.length:=by omega
 subst hge;have hln:(ua l n v M).length=M.length:=by unfold ua;rw[ab]
 rw[aD,hln];(refine run ?_;repeat intro b);refine gy rfl (by omega) ?_;(refine run ?_;repeat intro b);obtain⟨bb,rfl⟩: ∃bb,gq=some bb:=by
  cases hbk:gq with
  | none=>have:=(h3 hbk).1;omega
  | some bb=>exact⟨bb,rfl⟩
 have hfl:((ua l n v M).flatMap Entry.row).length=M.length * 2:=by rw[dO eM,hln]
 refine eU (VS.iD (n:=M.length) (c:=cap) 3 [6] rfl (eH _) rfl rfl rfl hfl h4 (by rw[hfl];omega) fun F' hF hg _=>VS.id ⟨_,rfl,rfl,some ⟨bb,0,none⟩,cap,rfl,hg⟩)
end
section
open Go.TR
theorem Hf {l:List Entry}{n:List UInt8}(h:jB l n=0):yZ l n=(gI l n).getD []∧k6 l n=(gI l n).isSome:=by
 obtain⟨h1,_⟩:=qu h;have e3:k6 l n=lJ l n:=by unfold k6;rw[h];rfl
 rw[GO,e3];unfold yZ;rw[e3,KJ (qq h1)];cases lJ l n<;>exact⟨rfl,rfl⟩
attribute [local irreducible] ahead kP eC jQ eP dY gj lL lJ jB eR IJ gI mW Ls yZ k6 xc QS kx
attribute [local irreducible] vc dW gz fg fD gF gJ gB fJ Plain eD eX dK VS fv fA fG jt fh IntKind.wrap
set_option maxRecDepth 100000
set_option maxHeartbeats 8000000
end
section
open Go.TR
theorem E6: ∀{l:List Entry}{p:Option (List UInt8)},(∀x∈l,eR x.name x.value=0)→oo l→(∀q,p=some q→∀x∈l,ahead q x.name=true)→lP p l=0
 | [],_,_,_,_=>rfl
 | a::l,p,h1,h2,h3=>by
  obtain⟨h4,h5⟩:=List.pairwise_cons.1 h2;have hp:p.any (fun p=> !ahead p a.name)=false:=by
   cases p with
   | none=>rfl
   | some q=>simp[h3 q rfl a (by simp)]
  unfold lP;rw[aY (by simpa using h1 a (by simp)),aY (by rw[hp];decide)];exact E6 (fun x hx=>h1 x (by simp[hx])) h5 (fun q e x hx=>by cases e;exact h4 x hx)
theorem FI {n v:List UInt8}(h1:eP n=true)(h2:v.length≤20):eR n v=0:=by
 unfold eR;rw[aZ h1,aY (by omega)]
theorem vf {l:List Entry}{n v:List UInt8}(h:mW l n v=0):dY (kx l n v)=0∧ ∀x∈kx l n v,x=⟨n,v⟩∨x∈l:=by
 have h0:jB l n=0:=by
  unfold mW at h;by_cases g:jB l n=0
  ·exact g
  rw[aZ g]at h;exact h
 have ha:eR n v=0:=by
  unfold mW at h;rw[aY (by simpa using h0)]at h;by_cases g:eR n v=0
  ·exact g
  rw[aZ g]at h;exact h
 have hf: ¬(lJ l n=false∧l.length=24):=fun g=>by
  unfold mW at h;rw[aY (by simpa using h0),aY (by simpa using ha),aZ g]at h;cases h
 obtain⟨b0,b1⟩:=qu h0;obtain⟨tD,hgood,_⟩:=fP b0;have hb:=qq b0;have hmem: ∀x∈kx l n v,x=⟨n,v⟩∨x∈l:=fun x hx=>by
  rcases xx hb hx with e | e
  ·exact .inl e
  exact .inr e.1
 refine⟨?_,hmem⟩;have hlen:=xm hb n v;unfold dY;rw[aY]
 ·refine E6 (fun x hx=>?_) (uO hb n v) (fun q e=>by cases e);rcases hmem x hx with rfl | hx
  ·exact ha
  exact FI (hgood x hx).1 (hgood x hx).2
 rw[hlen];cases hh:lJ l n with
 | true=>simp;omega
 | false=>
  have:l.length≠24:=fun e=>hf ⟨hh,e⟩;simp;omega
def Wb (p:jo)(v:List UInt8):jo:=⟨p.name,kx p.gg p.name v,p.fF⟩
def js (root:Nat)(p:jo):Int:=if fV p≠0 then fV p else if lv p≠root then 8 else 0
def qK (root:Nat)(p:jo):List UInt8:=if js root p=0 then yZ p.gg p.name else []
def qM (root:Nat)(p:jo):Bool:=decide (js root p=0)&&k6 p.gg p.name
def MP (root:Nat)(p:jo)(v:List UInt8):Int:=if js root p≠0 then js root p else mW p.gg p.name v
def RR (root:Nat)(p:jo)(v:List UInt8):Nat:=if MP root p v=0 then lv (Wb p v) else 0
theorem Bo {root:Nat}{p:jo}(h:js root p=0):fV p=0∧lv p=root:=by
 unfold js at h;split at h
 ·rename_i h1;exact absurd h h1
 rename_i h1;split at h
 ·cases h
 rename_i h2;exact⟨by simpa using h1,by simpa using h2⟩
theorem Fe {p:jo}(h:fV p=0):jB p.gg p.name=0:=by
 obtain⟨z1,z2,_⟩:=kO h;unfold jB;rw[aY (by simpa using z2),aZ z1]
attribute [local irreducible] ahead kP eC jQ eP dY gj lL lJ jB eR IJ gI mW Ls yZ k6 xc QS kx fV lv js qK qM MP RR
attribute [local irreducible] vc dW gz fg fD gF gJ gB fJ Plain eD eX dK VS fv fA fG jt fh IntKind.wrap
set_option maxRecDepth 100000
set_option maxHeartbeats 4000000
theorem PJ (root:Nat)(p:jo)(a:Lay)(hw:p.wf){F:Hp}(hf:p.at F a):Plain Tryz.prog F 102 [u64 (root:Nat),p.v a] (i64 (js root p)):=by
 refine dQ (N:=20) (rv:=[.tmp 4]) eW mixed Tryz.func102 rfl rfl rfl rfl rfl ?_;(refine run ?_;repeat intro b);refine dJ _ rfl rfl rfl Tk rfl (BR p a hw hf) ?_;(refine run ?_;repeat intro b);by_cases h0:fV p=0
 ·have e:yX p=lv p:=by unfold yX;rw[aZ h0]
  have eh:js root p=if lv p≠root then 8 else 0:=by unfold js;rw[aY (by simpa using h0)]
  rw[e,h0];generalize lv p=r at eh;refine eE (decide (r≠root)) ?_ (fun h=>?_) (fun h=>?_)
  ·refine dV ?_;rw[fK,ai];simp;omega
  ·rw[aZ (ar h)]at eh;rw[eh];(refine run ?_;repeat intro b);rfl
  rw[aY (au h)]at eh;rw[eh];(refine run ?_;repeat intro b);rfl
 have eh:js root p=fV p:=by unfold js;rw[aZ h0]
 rw[eh];refine eE false (a8 (fun b=>some (EV.v (.bool b))) (by rw[fK,dD.2 h0];rfl)) (fun h=>by cases h) (fun _=>?_);(refine run ?_;repeat intro b);rfl
theorem PX (root:Nat)(p:jo)(a:Lay)(hw:p.wf){F:Hp}(hf:p.at F a):Plain Tryz.prog F 50 [u64 (root:Nat),p.v a] (triple (S (qK root p)) (.bool (qM root p)) (i64 (js root p))):=by
 refine dQ (N:=22) (rv:=[.tmp 4,.tmp 5,.tmp 6]) eW mixed Tryz.func50 rfl rfl rfl rfl rfl ?_;(refine run ?_;repeat intro b);refine dJ _ rfl rfl rfl Wp rfl (PJ root p a hw hf) ?_;(refine run ?_;repeat intro b);refine eE (decide (js root p≠0)) ?_ (fun h=>?_) (fun h=>?_)
 ·refine dV ?_;rw[ai];simp
 ·have h:=ar h;have e1:qK root p=[]:=by unfold qK;rw[aY h]
  have e2:qM root p=false:=by unfold qM;rw[aX h];rfl
  rw[e1,e2];(refine run ?_;repeat intro b);rfl
 have h0:js root p=0:=by simpa using h
 obtain⟨g1,g2⟩:=Bo h0;have e1:qK root p=yZ p.gg p.name:=by unfold qK;rw[aZ h0]
 have e2:qM root p=k6 p.gg p.name:=by unfold qM;rw[h0];rfl
 have hg:=Hw p.gg p.name hw.gg hw.each hw.name (c:=a.ce) hf.gg;rw[Fe g1]at hg;rw[e1,e2,h0];(refine run ?_;repeat intro b);refine dJ _ rfl rfl rfl XB rfl hg ?_;(refine run ?_;repeat intro b);rfl
end
end Go.Proofs.YthbnddgjkonkdaaGreatDoor
