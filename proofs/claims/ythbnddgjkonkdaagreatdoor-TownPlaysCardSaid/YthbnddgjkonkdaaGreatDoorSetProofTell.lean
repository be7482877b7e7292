/- A part of the proof. -/
import Derived.Test.YthbnddgjkonkdaaGreatDoorSetProofSay
import Derived.Test.YthbnddgjkonkdaaGreatDoorSetPath
set_option linter.unusedVariables false
set_option linter.unusedSimpArgs false
namespace Go.Proofs.YthbnddgjkonkdaaGreatDoor
section
open Go.TR
theorem KN (p:jn)(k:Nat):kd p (k+1)=if (ej p.name).getD (15 - k) 0=48 then kX (gg (kd p k)) (p.fC.getD k 0) else kX (p.fC.getD k 0) (gg (kd p k)):=rfl
attribute [local irreducible] ahead kN ej jS eL dV gg js two kd
attribute [local irreducible] vc dT gx fc fA gC gG gw fG Plain eu eR dH VS fq fx fD ju fe IntKind.wrap
set_option maxRecDepth 100000
theorem MV (p:jn){k n:Nat}(h:k<n):((lH p n).map S).map EV.v=((lH p n).map S).map EV.v∧(((lH p n).map S).map EV.v)[k]? =some (EV.v (S (kd p k))):=by
 refine⟨rfl,?_⟩;rw[aI,aI];unfold lH;rw[aI,List.getElem?_range h];rfl
set_option maxHeartbeats 1000000 in
theorem BI (p:jn)(a:Lay)(hw:p.wf){F:Hp}(hf:p.at F a):Plain Tryz.prog F 156 [p.v a] (pair (u64 (xH p:Nat)) (i64 (fS p))):=by
 refine dN (N:=21) (rv:=[.tmp 2,.tmp 3]) eP mixed Tryz.func156 rfl rfl rfl rfl rfl ?_;(refine run ?_;repeat intro b);refine fi rfl rfl rfl T3 rfl (Db p a hw hf) ?_;rintro _ F1 hF1 ⟨p1,c1,rfl,hc1,hg1⟩;(refine run ?_;repeat intro b);refine ez (decide (fS p≠0)) ?_ (fun h=>?_) (fun h=>?_)
 ·refine dS ?_;rw[ai];simp
 ·have e:xH p=0:=by unfold xH;rw[aY (ar h)]
  rw[e];(refine run ?_;repeat intro b);rfl
 have h0:fS p=0:=by simpa using h
 obtain⟨z1,z2,z3,z4,z5⟩:=kL h0;obtain⟨y1,_,_⟩:=fL z2;have e:xH p=lA p:=by unfold xH;rw[aZ h0]
 have e2:na p=lH p 17:=by unfold na;rw[aZ h0]
 have ew:IntKind.i64.wrap (((na p).length:Int) - 1)=((16:Nat):Int):=by rw[e2,m8,wrap_i64 (by omega) (by omega)];rfl
 have g:gb F1 (im p1 16)=some (S (kd p 16)):=by
  rw[e2]at hg1;refine hg1 16 _ ?_;rw[aI];unfold lH;rw[aI,List.getElem?_range (by decide)];rfl
 rw[e,h0];(refine run ?_;repeat intro b);rw[ew];refine dI rfl rfl rfl ⟨by omega,by rw[e2,m8];decide,dO hg1 (j:=16) (by rw[ab,e2,m8];decide)⟩ ?_;refine fr (S (kd p 16)) rfl rfl rfl rfl g ?_;(refine run ?_;repeat intro b);refine dG _ rfl rfl rfl C9 rfl (lr (kd p 16) (by have:=uX y1 16;omega) F1) ?_;(refine run ?_;repeat intro b);rfl
set_option maxHeartbeats 4000000 in
theorem w6 (p:jn)(a:Lay)(hw:p.wf)(h0:fS p=0){F:Hp}(hf:p.at F a):iu Tryz.prog F 245 [p.v a] (fun x F'=>∃p' c',x= .slice p' 17 c'∧eY F' p' ((lH p 17).map S)):=by
 obtain⟨z1,z2,z3,z4,z5⟩:=kL h0;obtain⟨y1,y2,_⟩:=fL z2;obtain⟨w1,w2,w3,w4,w5⟩:=hw;obtain⟨f1,f2⟩:=hf;refine fU (N:=49) (rv:=[.tmp 2]) eP mixed Tryz.func245 rfl rfl rfl rfl rfl ?_;(refine run ?_;repeat intro b);generalize b=bp;refine dG _ rfl rfl rfl QN rfl (v9 p.fZ y1 w3 f1) ?_;(refine run ?_;repeat intro b);refine dG _ rfl rfl rfl wT rfl (kW p.name w1 F) ?_;(refine run ?_;repeat intro b);have e0:jt p.fZ=kd p 0:=by unfold kd;rfl
 rw[e0];refine eU (fun q:Nat×Nat×Nat=>q.1≤16∧q.1+1≤q.2.2) (fun q=>⟨[(1,.loc 0 0),(3,.row 2 0 (q.1+1) q.2.2),(4,.v (S (ej p.name))),(14,.v (i64 (q.1:Nat)))],F,[(2,⟨some q.2.1,((lH p (q.1+1)).map S).map EV.v,9,q.2.2 * 1⟩),(0,⟨some bp,[.v (S p.name),.v (.slice a.e p.fZ.length a.ce),.v (.slice a.s p.fC.length a.cs)],45,3⟩)],3⟩) (fun q=>16 - q.1) (0,b,1) ⟨az _,ah _⟩ (VS.mM (nx':=3) [(1,2),(0,0)] [1,3,4,14] [(2,⟨some b,((lH p (0+1)).map S).map EV.v,9,1⟩),(0,⟨some bp,[.v (S p.name),.v (.slice a.e p.fZ.length a.ce),.v (.slice a.s p.fC.length a.cs)],45,3⟩)] (dU rfl (dU rfl trivial)) rfl rfl rfl rfl rfl rfl rfl) ?_;rintro⟨k,gl,cap⟩ ⟨hk,hcap⟩;dsimp only at hk hcap ⊢;have hsl:=m8 p (k+1);by_cases aab:k<16
 ·have hlt:k<p.fC.length:=by omega
  have g:=gQ f2 (j:=k) (by rw[ab];exact hlt);rw[cD]at g;have hb:=ra p.name (15 - k) (by omega);have YW:=uX y1 k;have hm:=z5 _ (aj hlt);have hst:kd p (k+1)=if (ej p.name).getD (15 - k) 0=48 then kX (gg (kd p k)) p.fC[k] else kX p.fC[k] (gg (kd p k)):=by
   have:p.fC[k]=p.fC.getD k 0:=by rw[aE,ao hlt];rfl
   rw[this];exact KN p k
  have hsn:=Bx p (k+1);have hmm:MM=2305843009213693951:=rfl;have hmk:=kZ (kd p k);have ei:IntKind.i64.wrap (15 - (k:Int))=((15 - k:Nat):Int):=by rw[wrap_i64 (by omega) (by omega)];omega
  have hpl:=jJ p.name;have hcells:(((lH p (k+1)).map S).map EV.v).take ((k+1) * 1)++[EV.v (S (kd p (k+1)))]=((lH p (k+1+1)).map S).map EV.v:=by
   rw[hsn,an (by simp[hsl])]
  have hget:=(MV p (k:=k) (n:=k+1) (by omega)).2;generalize p.fC[k]=m at g hm hst;generalize ej p.name=W at hb hst hpl;(refine run ?_;repeat intro b);refine gm rfl (by omega) ?_;(refine run ?_;repeat intro b);refine dI rfl rfl rfl ⟨by omega,by omega,_,_,rfl,rfl⟩ ?_;refine od (S (kd p k)) rfl rfl rfl rfl rfl (by rw[ae,aP];show (((lH p (k+1)).map S).map EV.v)[k * 1]? =_;rw[aA];exact hget) ?_;(refine run ?_;repeat intro b);refine dG _ rfl rfl rfl vQ rfl (jU (kd p k) (by omega) F) ?_;(refine run ?_;repeat intro b);rw[ei];refine dI rfl rfl rfl ⟨by omega,by simp only[fX];omega⟩ ?_;generalize aas:gg (kd p k)=mk at hmk hst;rcases hb with h | h
  ·rw[aZ h]at hst;rw[ae,fX,h];(refine run ?_;repeat intro b);refine dI rfl rfl rfl ⟨by omega,by omega,dO f2 (j:=k) (by rw[ab];exact hlt)⟩ ?_;refine fr (mu m) rfl rfl rfl rfl (by rw[ae,aA];exact g) ?_;(refine run ?_;repeat intro b);refine dG _ rfl rfl rfl Lj rfl (qW mk m (by omega) (by omega) F) ?_;rw[←hst];(refine run ?_;repeat intro b);refine fv rfl rfl rfl rfl rfl rfl rfl rfl (fb rfl rfl) tl (fun h=>by cases h) hcap rfl (by simp[hsl]) (by show _ * 16≤_;omega) (fun h=>by cases h) (fun _ b2 c2 hc2=>?_);(refine run ?_;repeat intro b);rw[dQ (by omega)];exact fE (k+1,b2,c2) 2 [(4,2),(0,0)] [1,3,4,14] [(2,⟨some b2,((lH p (k+1+1)).map S).map EV.v,9,c2 * 1⟩),(0,⟨some bp,[.v (S p.name),.v (.slice a.e p.fZ.length a.ce),.v (.slice a.s p.fC.length a.cs)],45,3⟩)] ⟨by omega,hc2⟩ (by simp only;omega) (aM _ _)
    (ff ⟨_,rfl,rfl,rfl,rfl,.inl ⟨hcells.symm,fun e he=>fw _ e (hcells ▸ he)⟩⟩ (dU rfl trivial)) rfl rfl rfl rfl rfl rfl rfl
  rw[aY (by rw[h];decide)]at hst;rw[ae,fX,h];(refine run ?_;repeat intro b);refine dI rfl rfl rfl ⟨by omega,by omega,dO f2 (j:=k) (by rw[ab];exact hlt)⟩ ?_;refine fr (mu m) rfl rfl rfl rfl (by rw[ae,aA];exact g) ?_;(refine run ?_;repeat intro b);refine dG _ rfl rfl rfl Lj rfl (qW m mk (by omega) (by omega) F) ?_;rw[←hst];(refine run ?_;repeat intro b);refine fv rfl rfl rfl rfl rfl rfl rfl rfl (fb rfl rfl) tl (fun h=>by cases h) hcap rfl (by simp[hsl]) (by show _ * 16≤_;omega) (fun h=>by cases h) (fun _ b2 c2 hc2=>?_);(refine run ?_;repeat intro b);rw[dQ (by omega)];exact fE (k+1,b2,c2) 2 [(4,2),(0,0)] [1,3,4,14] [(2,⟨some b2,((lH p (k+1+1)).map S).map EV.v,9,c2 * 1⟩),(0,⟨some bp,[.v (S p.name),.v (.slice a.e p.fZ.length a.ce),.v (.slice a.s p.fC.length a.cs)],45,3⟩)] ⟨by omega,hc2⟩ (by simp only;omega) (aM _ _)
   (ff ⟨_,rfl,rfl,rfl,rfl,.inl ⟨hcells.symm,fun e he=>fw _ e (hcells ▸ he)⟩⟩ (dU rfl trivial)) rfl rfl rfl rfl rfl rfl rfl
 have hge:k=16:=by omega
 subst hge;(refine run ?_;repeat intro b);refine eM ?_;refine VS.freeze 2 [1,2] rfl (eD _) rfl rfl fun F' hs1 hf1=>VS.iy [0] rfl (VS.id ⟨_,rfl,rfl,some ⟨gl,0,none⟩,cap,rfl,hf1⟩)
theorem xe (p:jn)(a:Lay)(hw:p.wf)(h0:fS p=0){F:Hp}(hf:p.at F a):Plain Tryz.prog F 187 [p.v a] (u64 (lA p:Nat)):=by
 obtain⟨z1,z2,z3,z4,z5⟩:=kL h0;obtain⟨y1,_,_⟩:=fL z2;refine dN (N:=8) (rv:=[.tmp 2]) eP mixed Tryz.func187 rfl rfl rfl rfl rfl ?_;(refine run ?_;repeat intro b);refine fi rfl rfl rfl VQ rfl (w6 p a hw h0 hf) ?_;rintro _ F1 hF1 ⟨p1,c1,rfl,hg1⟩;have g:gb F1 (im p1 16)=some (S (kd p 16)):=by
  refine hg1 16 _ ?_;rw[aI];unfold lH;rw[aI,List.getElem?_range (by decide)];rfl
 (refine run ?_;repeat intro b);refine dI rfl rfl rfl ⟨by omega,by omega,dO hg1 (j:=16) (by rw[ab,m8];decide)⟩ ?_;refine fr (S (kd p 16)) rfl rfl rfl rfl g ?_;(refine run ?_;repeat intro b);refine dG _ rfl rfl rfl vQ rfl (jU (kd p 16) (by have:=uX y1 16;omega) F1) ?_;(refine run ?_;repeat intro b);rfl
end
section
open Go.TR
def Hq (a b:List (List UInt8)):Nat→List UInt8×List UInt8×Int
 | 0=>([],[],5)
 | k+1=>if a.getD k []=b.getD k [] then Hq a b k else if gg (a.getD k [])=gg (b.getD k []) then (a.getD k [],b.getD k [],0) else ([],[],5)
def Rj (a b:List (List UInt8)):List UInt8×List UInt8×Int:=
 if a.length=0∨a.length≠b.length then ([],[],3) else if gg (a.getD (a.length - 1) [])≠gg (b.getD (b.length - 1) []) then ([],[],8) else Hq a b a.length
@[reducible] def clV (x:List UInt8×List UInt8×Int):Value:=triple (S x.1) (S x.2.1) (i64 x.2.2)
theorem BK {F:Hp}{p:Option Addr}{l:List (List UInt8)}(hf:eY F p (l.map S)){k:Nat}(h:k<l.length):gb F (im p k)=some (S (l.getD k [])):=by
 have:=gQ hf (j:=k) (by rw[ab];exact h);rw[cD]at this;rw[aE,ao h];exact this
attribute [local irreducible] gg Hq ej eL kd fS
attribute [local irreducible] vc dT gx fc fA gC gG gw fG Plain eu eR dH VS fq fx fD ju fe IntKind.wrap
set_option maxRecDepth 100000
def Nd (p q:jn):Int:=if fS p≠0 then fS p else if fS q≠0 then fS q else if p.name≠q.name then 3 else 0
def XH (p q:jn):List UInt8×List UInt8×Int:=if Nd p q≠0 then ([],[],Nd p q) else Rj (lH p 17) (lH q 17)
end
section
open Go.TR
theorem EX {p:Option (List UInt8)}{l:List (List UInt8)}(h: ∀s∈l,s.length≤4611686018427387904):((mv p l).getD []).length≤4611686018427387904:=by
 have key:=qx p l none (fun q h=>by cases h);unfold mv;cases hb:l.foldl (mo p) none with
 | none=>exact az _
 | some q=>
  rw[hb]at key;rcases key.1 with e | e
  ·cases e
  exact h q e
attribute [local irreducible] ahead behind mv kU
attribute [local irreducible] vc dT gx fc fA gC gG gw fG Plain eu eR dH VS fq fx fD ju fe IntKind.wrap
set_option maxRecDepth 100000
set_option maxHeartbeats 4000000 in
theorem tj (xs:List (List UInt8))(hn:xs.length * 16≤140737488355328)(hs: ∀s∈xs,s.length≤4611686018427387904){p:Option Addr}{c:Nat}{F:Hp}(hf:eY F p (xs.map S)):iu Tryz.prog F 184 [.slice p xs.length c] (fun x F'=>∃p' c',x= .slice p' (kU xs).length c'∧eY F' p' ((kU xs).map S)):=by
 refine fU (N:=45) (rv:=[.tmp 2]) eP mixed Tryz.func184 rfl rfl rfl rfl rfl ?_;have hnext:=Hs xs;have hLn:=tT xs;have hLs: ∀s∈kU xs,s.length≤4611686018427387904:=fun s h=>hs s ((mD xs s).1 h);generalize kU xs=L at hnext hLn hLs;(refine run ?_;repeat intro b);refine eU (fun q:Nat×Option Nat×Nat=>q.1≤L.length∧(q.2.1=none→q.1=0∧q.2.2=0)∧q.1≤q.2.2)
  (fun q=>⟨[(0,.v (.slice p xs.length c)),(3,.row 0 0 q.1 q.2.2)],F,[(0,⟨q.2.1,((L.take q.1).map S).map EV.v,9,q.2.2 * 1⟩)],1⟩) (fun q=>L.length - q.1) (0,none,0) ⟨az _,fun _=>⟨rfl,rfl⟩,ah _⟩ (VS.trans (VS.nT 3 9 [0] rfl rfl (VS.id (VS.eH [0,3] rfl rfl)))) ?_
 rintro⟨k,gl,cap⟩ ⟨h1,h3,h4⟩;dsimp only at h1 h3 h4 ⊢;have hnx:mv (if k=0 then none else L[k - 1]?) xs=L[k]? :=by
  rcases hnext k with h | h
  ·exact h
  omega
 cases k with
 | zero=>
  rw[aZ rfl]at hnx;(refine run ?_;repeat intro b);have hb0:mv none (xs.take 0)=none:=by rw[db];unfold mv;rfl
  refine eU (fun j:Nat=>j≤xs.length) (fun j=>⟨[(0,.v (.slice p xs.length c)),(3,.row 0 0 0 cap),(4,.v (S ((mv none (xs.take j)).getD []))),(5,.v (.bool (mv none (xs.take j)).isSome)),(8,.v (.slice p xs.length c)),(9,.v (i64 (xs.length:Nat))),(10,.v (i64 (j:Nat)))],F,[(0,⟨gl,((L.take 0).map S).map EV.v,9,cap * 1⟩)],1⟩) (fun j=>xs.length - j) 0 (az _) (VS.eH [0,3,4,5,8,9,10] rfl (by rw[hb0];rfl)) ?_;intro j hj;by_cases hlt:j<xs.length
  ·have g:=BK hf (k:=j) hlt;have hsn:=yk none hlt;have hls:=hs xs[j] (aj hlt);have hbl:=EX (p:=none) (l:=xs.take j) (fun s h=>hs s (cV h));have hgd:xs.getD j []=xs[j]:=by rw[aE,ao hlt];rfl
   rw[hgd]at g;generalize xs[j]=s at g hsn hls;generalize mv none (xs.take j)=vU at hsn hbl;(refine run ?_;repeat intro b);refine gm rfl (by omega) ?_;(refine run ?_;repeat intro b);refine dI rfl rfl rfl ⟨by omega,by omega,dO hf (j:=j) (by rw[ab];omega)⟩ ?_;refine fr (S s) rfl rfl rfl rfl (by rw[ae,aA];exact g) ?_;(refine run ?_;repeat intro b);refine gi _ rfl rfl rfl rfl Ik rfl rfl (fun _=>uM s (vU.getD []) hls hbl F) ?_;(refine run ?_;repeat intro b);refine ez (behind none s&&vU.all fun q=>ahead s q) ?_ (fun h=>?_) (fun h=>?_)
   ·refine dS ?_;unfold behind;cases vU<;>simp[fH,fu]
   ·have e:mo none vU s=some s:=by unfold mo;rw[aZ (by simpa using h)]
    (refine run ?_;repeat intro b);rw[dQ (by omega)];exact fj (j+1) hlt (by omega) (VS.eH [0,3,4,5,8,9,10] rfl (by rw[hsn,e];rfl))
   have e:mo none vU s=vU:=by unfold mo;rw[aY (by simpa using h)]
   (refine run ?_;repeat intro b);rw[dQ (by omega)];exact fj (j+1) hlt (by omega) (VS.eH [0,3,4,5,8,9,10] rfl (by rw[hsn,e]))
  skip
  have hge:j=xs.length:=by omega
  subst hge;rw[aD,hnx];have hlk:(L.take 0).length=0:=by rw[aw];omega
  (refine run ?_;repeat intro b);refine gu rfl (by omega) ?_;cases hLk:L[0]? with
  | none=>
   have hll:L.length≤0:=List.getElem?_eq_none_iff.1 hLk;have SQ:L.length=0:=by omega
   (refine run ?_;repeat intro b);refine eM (VS.shut (fun p'=>[(2,.v (.slice p' 0 cap))]) 0 [2] rfl (eD _) (fun _=>rfl) rfl (fun _=>rfl) rfl fun F' p' hF hg=>⟨_,rfl,rfl,p',cap,by rw[SQ];rfl,?_⟩);rw[an hll]at hg;exact hg
  | some s=>
   obtain⟨YV,hks⟩:=cz.1 hLk;have hsn:((L.take (0+1)).map S).map EV.v=((L.take 0).map S).map EV.v++[EV.v (S s)]:=by
    rw[al YV,hks];simp
   (refine run ?_;repeat intro b);refine fv rfl rfl rfl rfl rfl rfl rfl rfl (fb rfl rfl) tl h3 h4 rfl (by rw[ab,ab,hlk,aA];exact ah _) (by show _ * 16≤_;omega) (fun h=>by cases h) (fun _ b2 c2 hc2=>?_);(refine run ?_;repeat intro b);have hcells:(((L.take 0).map S).map EV.v).take (0 * 1)++[EV.v (S s)]=((L.take (0+1)).map S).map EV.v:=by
    rw[hsn,an (by rw[ab,ab,hlk,aA];exact ah _)]
   exact fE (0+1,some b2,c2) 0 [(2,0)] [0,3] [(0,⟨some b2,((L.take (0+1)).map S).map EV.v,9,c2 * 1⟩)] ⟨by omega,(fun h=>by cases h),hc2⟩ (by simp only;omega) (aM _ _)
    (ff ⟨_,rfl,rfl,rfl,rfl,.inl ⟨hcells.symm,fun e he=>fw _ e (hcells ▸ he)⟩⟩ trivial) rfl rfl rfl rfl rfl rfl rfl
 | succ k=>
  have hkl:k<L.length:=by omega
  have hget:(((L.take (k+1)).map S).map EV.v)[k]? =some (EV.v (S L[k])):=by
   rw[aI,aI,cB,aZ (by omega),ao hkl];rfl
  have hll:=hLs L[k] (aj hkl);rw[aY (by omega),Nat.add_sub_cancel,ao hkl]at hnx;generalize L[k]=last at hnx hget hll;have ew:IntKind.i64.wrap (((k+1:Nat):Int) - 1)=(k:Int):=by rw[wrap_i64 (by omega) (by omega)];omega
  cases gl with
  | none=>exact absurd (h3 rfl).1 (by omega)
  | some gl=>
   (refine run ?_;repeat intro b);have hb0:mv (some last) (xs.take 0)=none:=by rw[db];unfold mv;rfl
   refine eU (fun j:Nat=>j≤xs.length) (fun j=>⟨[(0,.v (.slice p xs.length c)),(3,.row 0 0 (k+1) cap),(4,.v (S ((mv (some last) (xs.take j)).getD []))),(5,.v (.bool (mv (some last) (xs.take j)).isSome)),(8,.v (.slice p xs.length c)),(9,.v (i64 (xs.length:Nat))),(10,.v (i64 (j:Nat)))],F,[(0,⟨some gl,((L.take (k+1)).map S).map EV.v,9,cap * 1⟩)],1⟩) (fun j=>xs.length - j) 0 (az _) (VS.eH [0,3,4,5,8,9,10] rfl (by rw[hb0];rfl)) ?_;intro j hj;by_cases hlt:j<xs.length
   ·have g:=BK hf (k:=j) hlt;have hsn:=yk (some last) hlt;have hls:=hs xs[j] (aj hlt);have hbl:=EX (p:=(some last)) (l:=xs.take j) (fun s h=>hs s (cV h));have hgd:xs.getD j []=xs[j]:=by rw[aE,ao hlt];rfl
    rw[hgd]at g;generalize xs[j]=s at g hsn hls;generalize mv (some last) (xs.take j)=vU at hsn hbl;(refine run ?_;repeat intro b);refine gm rfl (by omega) ?_;(refine run ?_;repeat intro b);refine dI rfl rfl rfl ⟨by omega,by omega,dO hf (j:=j) (by rw[ab];omega)⟩ ?_;refine fr (S s) rfl rfl rfl rfl (by rw[ae,aA];exact g) ?_;(refine run ?_;repeat intro b);rw[ew];refine dI rfl rfl rfl ⟨by omega,by omega,_,_,rfl,rfl⟩ ?_;(refine run ?_;repeat intro b);refine od (S last) rfl rfl rfl rfl rfl (by rw[ae,aP];show (((L.take (k+1)).map S).map EV.v)[k * 1]? =_;rw[aA];exact hget) ?_;(refine run ?_;repeat intro b);refine dG _ rfl rfl rfl Ik rfl (uM last s hll hls F) ?_;(refine run ?_;repeat intro b);refine gi _ rfl rfl rfl rfl Ik rfl rfl (fun _=>uM s (vU.getD []) hls hbl F) ?_;(refine run ?_;repeat intro b);refine ez (behind (some last) s&&vU.all fun q=>ahead s q) ?_ (fun h=>?_) (fun h=>?_)
    ·refine dS ?_;unfold behind;cases vU<;>simp[fH,fu]
    ·have e:mo (some last) vU s=some s:=by unfold mo;rw[aZ (by simpa using h)]
     (refine run ?_;repeat intro b);rw[dQ (by omega)];exact fj (j+1) hlt (by omega) (VS.eH [0,3,4,5,8,9,10] rfl (by rw[hsn,e];rfl))
    have e:mo (some last) vU s=vU:=by unfold mo;rw[aY (by simpa using h)]
    (refine run ?_;repeat intro b);rw[dQ (by omega)];exact fj (j+1) hlt (by omega) (VS.eH [0,3,4,5,8,9,10] rfl (by rw[hsn,e]))
   skip
   have hge:j=xs.length:=by omega
   subst hge;rw[aD,hnx];have hlk:(L.take (k+1)).length=(k+1):=by rw[aw];omega
   (refine run ?_;repeat intro b);refine gu rfl (by omega) ?_;cases hLk:L[(k+1)]? with
   | none=>
    have hll:L.length≤(k+1):=List.getElem?_eq_none_iff.1 hLk;have SQ:L.length=(k+1):=by omega
    (refine run ?_;repeat intro b);refine eM (VS.shut (fun p'=>[(2,.v (.slice p' (k+1) cap))]) 0 [2] rfl (eD _) (fun _=>rfl) rfl (fun _=>rfl) rfl fun F' p' hF hg=>⟨_,rfl,rfl,p',cap,by rw[SQ];rfl,?_⟩);rw[an hll]at hg;exact hg
   | some s=>
    obtain⟨YV,hks⟩:=cz.1 hLk;have hsn:((L.take ((k+1)+1)).map S).map EV.v=((L.take (k+1)).map S).map EV.v++[EV.v (S s)]:=by
     rw[al YV,hks];simp
    (refine run ?_;repeat intro b);refine fv rfl rfl rfl rfl rfl rfl rfl rfl (fb rfl rfl) tl h3 h4 rfl (by rw[ab,ab,hlk,aA];exact ah _) (by show _ * 16≤_;omega) (fun h=>by cases h) (fun _ b2 c2 hc2=>?_);(refine run ?_;repeat intro b);have hcells:(((L.take (k+1)).map S).map EV.v).take ((k+1) * 1)++[EV.v (S s)]=((L.take ((k+1)+1)).map S).map EV.v:=by
     rw[hsn,an (by rw[ab,ab,hlk,aA];exact ah _)]
    exact fE ((k+1)+1,some b2,c2) 0 [(2,0)] [0,3] [(0,⟨some b2,((L.take ((k+1)+1)).map S).map EV.v,9,c2 * 1⟩)] ⟨by omega,(fun h=>by cases h),hc2⟩ (by simp only;omega) (aM _ _)
     (ff ⟨_,rfl,rfl,rfl,rfl,.inl ⟨hcells.symm,fun e he=>fw _ e (hcells ▸ he)⟩⟩ trivial) rfl rfl rfl rfl rfl rfl rfl
end
section
open Go.TR
def NK (l:List Entry)(n:List UInt8):Int:=if jz l n≠0 then jz l n else if lG l n=true then 0 else 5
def QY (l:List Entry)(n:List UInt8):List Entry:=if NK l n=0 then IM l n else []
attribute [local irreducible] ahead kN ej jS eL dV gg lI lG jz eJ
attribute [local irreducible] vc dT gx fc fA gC gG gw fG Plain eu eR dH VS fq fx fD ju fe IntKind.wrap
set_option maxRecDepth 100000
set_option maxHeartbeats 4000000
end
section
open Go.TR
theorem MK (l:List Entry)(x:Entry):jW (l++[x])=jW l++x.row.map EV.v:=by
 rw[tL];unfold jW;simp
theorem Pv (rs:RL)(x:Entry):lj rs (x.row.map EV.v):=by
 have:=Cb rs [x];unfold jW at this;simpa using this
attribute [local irreducible] ahead kN ej jS eL dV gg lI lG jz eJ IM gF
attribute [local irreducible] vc dT gx fc fA gC gG gw fG Plain eu eR dH VS fq fx fD ju fe IntKind.wrap
set_option maxRecDepth 100000
set_option maxHeartbeats 4000000
def Co (l:List Entry)(n v m:List UInt8):List UInt8:=if m=n then v else (gF l m).getD []
def tC (l:List Entry)(n v:List UInt8)(ms:List (List UInt8)):List Entry:=ms.map fun m=>⟨m,Co l n v m⟩
theorem J2 {l:List Entry}{n v:List UInt8}{ms:List (List UInt8)}{k:Nat}(h:k<ms.length):tC l n v (ms.take (k+1))=tC l n v (ms.take k)++[⟨ms[k],Co l n v ms[k]⟩]:=by
 unfold tC;rw[al h,aF];rfl
theorem zq {l:List Entry}{k:Nat}(h:k<l.length):(((l.take (k+1)).map Entry.name).map S).map EV.v=(((l.take k).map Entry.name).map S).map EV.v++[EV.v (S l[k].name)]:=by
 rw[al h];simp only[aF,a9,cM]
theorem GY (l:List Entry)(n v:List UInt8)(hb:oh l)(hl:l.length≤1000000)(hw: ∀x∈l,x.wf)(hn:n.length≤4611686018427387904){p:Option Addr}{c:Nat}{F:Hp}(hf:eY F p (l.flatMap Entry.row)):iu Tryz.prog F 131 [.slice p l.length c,S n,S v] (fun x F'=>∃p' c',x= .slice p' (ko l n v).length c'∧gU F' 122 2 p' (ko l n v).length c' ((ko l n v).flatMap Entry.row)):=by
 refine fU (N:=55) (rv:=[.tmp 6]) eP mixed Tryz.func131 rfl rfl rfl rfl rfl ?_;(refine run ?_;repeat intro b);refine eU (fun q:Nat×Option Nat×Nat=>q.1≤l.length∧(q.2.1=none→q.1=0∧q.2.2=0)∧q.1≤q.2.2)
  (fun q=>⟨[(7,.row 0 0 q.1 q.2.2),(0,.v (.slice p l.length c)),(1,.v (S n)),(2,.v (S v)),(15,.v (.slice p l.length c)),(16,.v (i64 (l.length:Nat))),(17,.v (i64 (q.1:Nat)))],F,[(0,⟨q.2.1,(((l.take q.1).map Entry.name).map S).map EV.v,9,q.2.2 * 1⟩)],1⟩) (fun q=>l.length - q.1) (0,none,0) ⟨az _,fun _=>⟨rfl,rfl⟩,ah _⟩ (VS.nT 7 9 [0,1,2,15,16,17] rfl rfl (VS.id rfl)) ?_
 rintro⟨k,gl,cap⟩ ⟨hk,h3,h4⟩;dsimp only at hk h3 h4 ⊢;have hlk:((((l.take k).map Entry.name).map S).map EV.v).length=k:=by rw[ab,ab,ab,aw];omega
 by_cases hlt:k<l.length
 ·obtain⟨o1,o2⟩:=eZ eI (by decide) hf k hlt;have hsn:=zq hlt;generalize l[k]=x at o2 hsn;(refine run ?_;repeat intro b);refine gm rfl (by omega) ?_;(refine run ?_;repeat intro b);refine dI rfl rfl rfl ⟨by omega,by omega,dO hf (j:=k * 2) (by rw[dL eI];omega)⟩ ?_;refine fy x.row rfl rfl rfl rfl rfl (by rw[ae];exact o1) (by rw[ae];exact o2) ?_;(refine run ?_;repeat intro b);refine fv rfl rfl rfl rfl rfl rfl rfl rfl (fb rfl rfl) tl h3 h4 rfl (by rw[hlk,aA];exact ah _) (by show _ * 16≤_;omega) (fun h=>by cases h) (fun _ b2 c2 hc2=>?_);(refine run ?_;repeat intro b);have hcells:((((l.take k).map Entry.name).map S).map EV.v).take (k * 1)++[EV.v (S x.name)]=(((l.take (k+1)).map Entry.name).map S).map EV.v:=by
   rw[hsn,an (by rw[hlk,aA];exact ah _)]
  rw[dQ (by omega)];exact fE (k+1,some b2,c2) 0 [(3,0)] [7,0,1,2,15,16,17] [(0,⟨some b2,(((l.take (k+1)).map Entry.name).map S).map EV.v,9,c2 * 1⟩)] ⟨hlt,(fun h=>by cases h),hc2⟩ (by simp only;omega) (aM _ _)
   (ff ⟨_,rfl,rfl,rfl,rfl,.inl ⟨hcells.symm,fun e he=>fw _ e (hcells ▸ he)⟩⟩ trivial) rfl rfl rfl rfl rfl rfl rfl
 have hge:k=l.length:=by omega
 subst hge;rw[aD]at hlk ⊢;(refine run ?_;repeat intro b);refine gu rfl (by omega) ?_;(refine run ?_;repeat intro b);refine fv rfl rfl rfl rfl rfl rfl rfl rfl (fb rfl rfl) tl h3 h4 rfl (by rw[hlk,aA];exact ah _) (by show _ * 16≤_;omega) (fun h=>by cases h) (fun _ b2 c2 hc2=>?_);have hcells:(((l.map Entry.name).map S).map EV.v).take (l.length * 1)++[EV.v (S n)]=((l.map Entry.name++[n]).map S).map EV.v:=by
  rw[an (by rw[hlk,aA];exact ah _)];simp
 rw[hcells];refine fT (VS.freeze 2 [0,1,2,10,30] rfl (eD _) rfl rfl fun F1 hs1 hf1=>VS.id ?_);have hx:(l.map Entry.name++[n]).length=l.length+1:=by simp
 have Dr:=tj (l.map Entry.name++[n]) (c:=c2) (by rw[hx];omega) (fun s hs=>by
  rcases aK.1 hs with hs | hs
  ·obtain⟨x,hx,rfl⟩:=aG.1 hs;exact (hw x hx).name
  rw[aB]at hs;rw[hs];exact hn) hf1
 have hom:=tT (l.map Entry.name++[n]);have YQ:ko l n v=tC l n v (kU (l.map Entry.name++[n])):=(Pt hb n v).symm;rw[hx]at Dr hom;rw[YQ];have hM0:0<(kU (l.map Entry.name++[n])).length:=List.length_pos_of_mem ((mD _ n).2 (by simp));generalize kU (l.map Entry.name++[n])=M at *;refine fi rfl rfl rfl N5 rfl Dr ?_;rintro _ F2 hF2 ⟨p2,c3,rfl,hg2⟩;have hf2:=dZ (hs1.trans hF2) hf;(refine run ?_;repeat intro b);refine eU (fun q:Nat×Option Nat×Nat=>q.1≤M.length∧(q.2.1=none→q.1=0∧q.2.2=0)∧q.1≤q.2.2)
  (fun q=>⟨[(10,.row 3 0 q.1 q.2.2),(0,.v (.slice p l.length c)),(1,.v (S n)),(2,.v (S v)),(31,.v (.slice p2 M.length c3)),(32,.v (i64 (M.length:Nat))),(33,.v (i64 (q.1:Nat)))],F2,[(3,⟨q.2.1,jW (tC l n v (M.take q.1)),122,q.2.2 * 2⟩)],4⟩) (fun q=>M.length - q.1) (0,none,0) ⟨az _,fun _=>⟨rfl,rfl⟩,ah _⟩ (VS.iy [1] rfl (VS.nT 10 122 [0,1,2,31,32,33] rfl rfl (VS.id rfl))) ?_
 rintro⟨k,gl,cap⟩ ⟨hk,h3,h4⟩;dsimp only at hk h3 h4 ⊢;have hlk:(jW (tC l n v (M.take k))).length=k * 2:=by
  rw[si];unfold tC;rw[ab,aw];congr 1;omega
 by_cases hlt:k<M.length
 ·have g:=BK hg2 (k:=k) hlt;have hgd:M.getD k []=M[k]:=by rw[aE,ao hlt];rfl
  rw[hgd]at g;have hsn:=J2 (l:=l) (n:=n) (v:=v) hlt;generalize M[k]=m at g hsn;(refine run ?_;repeat intro b);refine gm rfl (by omega) ?_;(refine run ?_;repeat intro b);refine dI rfl rfl rfl ⟨by omega,by omega,dO hg2 (j:=k) (by rw[ab];omega)⟩ ?_;refine fr (S m) rfl rfl rfl rfl (by rw[ae,aA];exact g) ?_;(refine run ?_;repeat intro b);refine dG _ rfl rfl rfl Vq rfl (tD l m (by omega) hf2) ?_;(refine run ?_;repeat intro b);refine k7 (β:=Unit) (fun _=>True) (fun _=>⟨[(10,.row 3 0 k cap),(0,.v (.slice p l.length c)),(1,.v (S n)),(2,.v (S v)),(31,.v (.slice p2 M.length c3)),(32,.v (i64 (M.length:Nat))),(12,.v (S m)),(13,.v (S (Co l n v m))),(33,.v (i64 (k:Nat)))],F2,[(3,⟨gl,jW (tC l n v (M.take k)),122,cap * 2⟩)],4⟩) rfl (fun _ _=>?_) (fun u7 kn kr ke=>?_)
  ·(refine run ?_;repeat intro b);refine fv rfl rfl rfl rfl rfl rfl rfl rfl (fb rfl rfl) (Pv _ ⟨m,Co l n v m⟩) h3 h4 rfl (by rw[hlk];exact ah _) (by show _ * 32≤_;omega) (fun h=>by cases h) (fun _ b4 c4 hc4=>?_);(refine run ?_;repeat intro b);have hcells:(jW (tC l n v (M.take k))).take (k * 2)++(⟨m,Co l n v m⟩:Entry).row.map EV.v=jW (tC l n v (M.take (k+1))):=by
    rw[hsn,MK,an (by rw[hlk];exact ah _)]
   rw[dQ (by omega)];exact fE (k+1,some b4,c4) 3 [(5,3)] [10,0,1,2,31,32,33] [(3,⟨some b4,jW (tC l n v (M.take (k+1))),122,c4 * 2⟩)] ⟨hlt,(fun h=>by cases h),hc4⟩ (by simp only;omega) (aM _ _)
    (ff ⟨_,rfl,rfl,rfl,rfl,.inl ⟨hcells.symm,fun e he=>fw _ e (hcells ▸ he)⟩⟩ trivial) rfl rfl rfl rfl rfl rfl rfl
  refine ez (decide (m=n)) rfl (fun h=>?_) (fun h=>?_)
  ·have e:Co l n v m=v:=by unfold Co;rw[aZ (ar h)]
   (refine run ?_;repeat intro b);exact kn _ (VS.eH [10,0,1,2,31,32,12,13,33] rfl ⟨(),trivial,by rw[e]⟩)
  have e:Co l n v m=(gF l m).getD []:=by unfold Co;rw[aY (au h)]
  (refine run ?_;repeat intro b);exact kn _ (VS.eH [10,0,1,2,31,32,12,13,33] rfl ⟨(),trivial,by rw[e]⟩)
 have hge:k=M.length:=by omega
 subst hge;have hln:(tC l n v M).length=M.length:=by unfold tC;rw[ab]
 rw[aD,hln];(refine run ?_;repeat intro b);refine gu rfl (by omega) ?_;(refine run ?_;repeat intro b);obtain⟨bb,rfl⟩: ∃bb,gl=some bb:=by
  cases hbk:gl with
  | none=>have:=(h3 hbk).1;omega
  | some bb=>exact⟨bb,rfl⟩
 have hfl:((tC l n v M).flatMap Entry.row).length=M.length * 2:=by rw[dL eI,hln]
 refine eM (VS.iz (n:=M.length) (c:=cap) 3 [6] rfl (eD _) rfl rfl rfl hfl h4 (by rw[hfl];omega) fun F' hF hg _=>VS.id ⟨_,rfl,rfl,some ⟨bb,0,none⟩,cap,rfl,hg⟩)
end
section
open Go.TR
theorem Gs {l:List Entry}{n:List UInt8}(h:jz l n=0):xE l n=(gF l n).getD []∧k6 l n=(gF l n).isSome:=by
 obtain⟨h1,_⟩:=qc h;have e3:k6 l n=lG l n:=by unfold k6;rw[h];rfl
 rw[GW,e3];unfold xE;rw[e3,Jp (qz h1)];cases lG l n<;>exact⟨rfl,rfl⟩
attribute [local irreducible] ahead kN ej jS eL dV gg lI lG jz eJ IM gF mS NK xE k6 w7 QY ko
attribute [local irreducible] vc dT gx fc fA gC gG gw fG Plain eu eR dH VS fq fx fD ju fe IntKind.wrap
set_option maxRecDepth 100000
set_option maxHeartbeats 8000000
end
section
open Go.TR
theorem DZ: ∀{l:List Entry}{p:Option (List UInt8)},(∀x∈l,eJ x.name x.value=0)→oh l→(∀q,p=some q→∀x∈l,ahead q x.name=true)→lK p l=0
 | [],_,_,_,_=>rfl
 | a::l,p,h1,h2,h3=>by
  obtain⟨h4,h5⟩:=List.pairwise_cons.1 h2;have hp:p.any (fun p=> !ahead p a.name)=false:=by
   cases p with
   | none=>rfl
   | some q=>simp[h3 q rfl a (by simp)]
  unfold lK;rw[aY (by simpa using h1 a (by simp)),aY (by rw[hp];decide)];exact DZ (fun x hx=>h1 x (by simp[hx])) h5 (fun q e x hx=>by cases e;exact h4 x hx)
theorem EG {n v:List UInt8}(h1:eL n=true)(h2:v.length≤20):eJ n v=0:=by
 unfold eJ;rw[aZ h1,aY (by omega)]
theorem vT {l:List Entry}{n v:List UInt8}(h:mS l n v=0):dV (ko l n v)=0∧ ∀x∈ko l n v,x=⟨n,v⟩∨x∈l:=by
 have h0:jz l n=0:=by
  unfold mS at h;by_cases g:jz l n=0
  ·exact g
  rw[aZ g]at h;exact h
 have ha:eJ n v=0:=by
  unfold mS at h;rw[aY (by simpa using h0)]at h;by_cases g:eJ n v=0
  ·exact g
  rw[aZ g]at h;exact h
 have hf: ¬(lG l n=false∧l.length=24):=fun g=>by
  unfold mS at h;rw[aY (by simpa using h0),aY (by simpa using ha),aZ g]at h;cases h
 obtain⟨b0,b1⟩:=qc h0;obtain⟨tA,hgood,_⟩:=fL b0;have hb:=qz b0;have hmem: ∀x∈ko l n v,x=⟨n,v⟩∨x∈l:=fun x hx=>by
  rcases xk hb hx with e | e
  ·exact .inl e
  exact .inr e.1
 refine⟨?_,hmem⟩;have hlen:=xn hb n v;unfold dV;rw[aY]
 ·refine DZ (fun x hx=>?_) (uL hb n v) (fun q e=>by cases e);rcases hmem x hx with rfl | hx
  ·exact ha
  exact EG (hgood x hx).1 (hgood x hx).2
 rw[hlen];cases hh:lG l n with
 | true=>simp;omega
 | false=>
  have:l.length≠24:=fun e=>hf ⟨hh,e⟩;simp;omega
def VT (p:jn)(v:List UInt8):jn:=⟨p.name,ko p.fZ p.name v,p.fC⟩
def jr (root:Nat)(p:jn):Int:=if fS p≠0 then fS p else if lA p≠root then 8 else 0
def qJ (root:Nat)(p:jn):List UInt8:=if jr root p=0 then xE p.fZ p.name else []
def qE (root:Nat)(p:jn):Bool:=decide (jr root p=0)&&k6 p.fZ p.name
def NL (root:Nat)(p:jn)(v:List UInt8):Int:=if jr root p≠0 then jr root p else mS p.fZ p.name v
def RH (root:Nat)(p:jn)(v:List UInt8):Nat:=if NL root p v=0 then lA (VT p v) else 0
theorem Bp {root:Nat}{p:jn}(h:jr root p=0):fS p=0∧lA p=root:=by
 unfold jr at h;split at h
 ·rename_i h1;exact absurd h h1
 rename_i h1;split at h
 ·cases h
 rename_i h2;exact⟨by simpa using h1,by simpa using h2⟩
theorem Ff {p:jn}(h:fS p=0):jz p.fZ p.name=0:=by
 obtain⟨z1,z2,_⟩:=kL h;unfold jz;rw[aY (by simpa using z2),aZ z1]
attribute [local irreducible] ahead kN ej jS eL dV gg lI lG jz eJ IM gF mS NK xE k6 w7 QY ko fS lA jr qJ qE NL RH
attribute [local irreducible] vc dT gx fc fA gC gG gw fG Plain eu eR dH VS fq fx fD ju fe IntKind.wrap
set_option maxRecDepth 100000
set_option maxHeartbeats 4000000
theorem PI (root:Nat)(p:jn)(a:Lay)(hw:p.wf){F:Hp}(hf:p.at F a):Plain Tryz.prog F 102 [u64 (root:Nat),p.v a] (i64 (jr root p)):=by
 refine dN (N:=20) (rv:=[.tmp 4]) eP mixed Tryz.func102 rfl rfl rfl rfl rfl ?_;(refine run ?_;repeat intro b);refine dG _ rfl rfl rfl Ud rfl (BI p a hw hf) ?_;(refine run ?_;repeat intro b);by_cases h0:fS p=0
 ·have e:xH p=lA p:=by unfold xH;rw[aZ h0]
  have eh:jr root p=if lA p≠root then 8 else 0:=by unfold jr;rw[aY (by simpa using h0)]
  rw[e,h0];generalize lA p=r at eh;refine ez (decide (r≠root)) ?_ (fun h=>?_) (fun h=>?_)
  ·refine dS ?_;rw[fH,ai];simp;omega
  ·rw[aZ (ar h)]at eh;rw[eh];(refine run ?_;repeat intro b);rfl
  rw[aY (au h)]at eh;rw[eh];(refine run ?_;repeat intro b);rfl
 have eh:jr root p=fS p:=by unfold jr;rw[aZ h0]
 rw[eh];refine ez false (a8 (fun b=>some (EV.v (.bool b))) (by rw[fH,dA.2 h0];rfl)) (fun h=>by cases h) (fun _=>?_);(refine run ?_;repeat intro b);rfl
theorem PO (root:Nat)(p:jn)(a:Lay)(hw:p.wf){F:Hp}(hf:p.at F a):Plain Tryz.prog F 50 [u64 (root:Nat),p.v a] (triple (S (qJ root p)) (.bool (qE root p)) (i64 (jr root p))):=by
 refine dN (N:=22) (rv:=[.tmp 4,.tmp 5,.tmp 6]) eP mixed Tryz.func50 rfl rfl rfl rfl rfl ?_;(refine run ?_;repeat intro b);refine dG _ rfl rfl rfl T6 rfl (PI root p a hw hf) ?_;(refine run ?_;repeat intro b);refine ez (decide (jr root p≠0)) ?_ (fun h=>?_) (fun h=>?_)
 ·refine dS ?_;rw[ai];simp
 ·have h:=ar h;have e1:qJ root p=[]:=by unfold qJ;rw[aY h]
  have e2:qE root p=false:=by unfold qE;rw[aX h];rfl
  rw[e1,e2];(refine run ?_;repeat intro b);rfl
 have h0:jr root p=0:=by simpa using h
 obtain⟨g1,g2⟩:=Bp h0;have e1:qJ root p=xE p.fZ p.name:=by unfold qJ;rw[aZ h0]
 have e2:qE root p=k6 p.fZ p.name:=by unfold qE;rw[h0];rfl
 have hg:=GZ p.fZ p.name hw.fZ hw.each hw.name (c:=a.ce) hf.fZ;rw[Ff g1]at hg;rw[e1,e2,h0];(refine run ?_;repeat intro b);refine dG _ rfl rfl rfl X6 rfl hg ?_;(refine run ?_;repeat intro b);rfl
end
end Go.Proofs.YthbnddgjkonkdaaGreatDoor
