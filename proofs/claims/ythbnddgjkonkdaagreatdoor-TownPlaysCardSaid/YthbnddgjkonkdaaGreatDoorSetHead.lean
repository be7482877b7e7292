/- A part of the proof. -/
import Derived.Test.YthbnddgjkonkdaaGreatDoorSetDiv
set_option linter.unusedVariables false
set_option linter.unusedSimpArgs false
namespace Go.Proofs.YthbnddgjkonkdaaGreatDoor
section
open Go.TR
def MM:Nat:=2305843009213693951
def HE:Nat:=1099511628211
def K8 (m:Nat)(c:UInt8):Nat:=(m * HE % MM+c.toNat+1) % MM
def gg (l:List UInt8):Nat:=l.foldl K8 1
theorem RW (m:Nat)(c:UInt8):K8 m c<MM:=dp _ (by decide)
theorem uw: ∀(l:List UInt8)(m:Nat),m<MM→l.foldl K8 m<MM
 | [],m,h=>h
 | c::l,m,_=>uw l _ (RW m c)
theorem kZ (l:List UInt8):gg l<MM:=uw l 1 (by decide)
theorem MN {a a' b b':Nat}(h:a % MM=a' % MM)(k:b % MM=b' % MM):(a+b) % MM=(a'+b') % MM:=by rw[Nat.add_mod,h,k,←Nat.add_mod]
theorem OL {a a' b b':Nat}(h:a % MM=a' % MM)(k:b % MM=b' % MM):(a * b) % MM=(a' * b') % MM:=by rw[Nat.mul_mod,h,k,←Nat.mul_mod]
def sp:List UInt8→Nat×Nat
 | []=>(0,1)
 | c::l=>(((sp l).1+(sp l).2 * (c.toNat+1) % MM) % MM,(sp l).2 * HE % MM)
theorem QO: ∀l,(sp l).1<MM∧(sp l).2<MM
 | []=>⟨by decide,by decide⟩
 | c::l=>⟨dp _ (by decide),dp _ (by decide)⟩
theorem H6: ∀(l:List UInt8)(m:Nat),l.foldl K8 m % MM=(m * (sp l).2+(sp l).1) % MM
 | [],m=>by simp[sp]
 | c::l,m=>by
  rw[List.foldl_cons,H6 l (K8 m c)];simp only[sp];have h1:K8 m c % MM=(m * HE+(c.toNat+1)) % MM:=by
   unfold K8;rw[Nat.mod_mod,Nat.add_assoc,Nat.mod_add_mod]
  have e1:(K8 m c * (sp l).2+(sp l).1) % MM=((m * HE+(c.toNat+1)) * (sp l).2+(sp l).1) % MM:=MN (OL h1 rfl) rfl;have e2:(m * ((sp l).2 * HE % MM)+((sp l).1+(sp l).2 * (c.toNat+1) % MM) % MM) % MM=(m * ((sp l).2 * HE)+((sp l).1+(sp l).2 * (c.toNat+1))) % MM:=
   MN (OL rfl (Nat.mod_mod _ _)) (by rw[Nat.mod_mod];exact MN rfl (Nat.mod_mod _ _))
  rw[e1,e2];congr 1;generalize (sp l).2=p;generalize (sp l).1=s;generalize c.toNat+1=d;generalize HE=b
  grind
theorem MA (l:List UInt8):((sp l).1+(sp l).2) % MM=gg l:=by
 have h:=H6 l 1;rw[Nat.mod_eq_of_lt (uw l 1 (by decide)),Nat.one_mul,Nat.add_comm]at h;exact h.symm
def Si:Nat→Nat
 | 0=>1
 | n+1=>Si n * HE % MM
def En:Nat→Nat→List UInt8
 | 0,_=>[]
 | k+1,n=>UInt8.ofNat (n / 256 ^ k % 256)::En k n
theorem oF: ∀k n,(En k n).length=k
 | 0,_=>rfl
 | k+1,n=>by simp only[En,aH,oF k n]
def num (n:Nat):List UInt8:=En 8 n
theorem gh (n:Nat):(num n).length=8:=oF 8 n
def two (kind a b:Nat):List UInt8:=UInt8.ofNat kind::(num a++num b)
theorem AL {α:Type}(L Z:List α)(h:L.length=Z.length)(k:Nat)(hk:k<L.length):(L.take k++Z.drop k).take k++[L[k]]++(L.take k++Z.drop k).drop (k+1)=L.take (k+1)++Z.drop (k+1):=by
 have e1:(L.take k).length=k:=by simp;omega
 have e2:(L.take k++Z.drop k).take k=L.take k:=by
  have:=List.take_left (l₁:=L.take k) (l₂:=Z.drop k)
  rwa [e1]at this
 have e3:(L.take k++Z.drop k).drop (k+1)=Z.drop (k+1):=by
  rw[List.drop_append,e1];rw[List.drop_of_length_le (by omega),cX,List.drop_drop];congr 1;omega
 rw[e2,e3,al hk]
end
section
open Go.TR
theorem Mf (n:Nat)(j s:Nat)(hs:s=8 * j)(hj:j≤7):IntKind.u8.wrap (Int.fdiv (n:Int) (2 ^ min (Int.toNat (s:Int)) IntKind.u64.bits))=(((UInt8.ofNat (n / 256 ^ j % 256)).toNat:Nat):Int):=by
 subst hs;have e1:min (Int.toNat ((8 * j:Nat):Int)) IntKind.u64.bits=8 * j:=by simp[IntKind.bits];omega
 have e2:(2 ^ (8 * j):Int)=((256 ^ j:Nat):Int):=by
  rw[Int.pow_mul,show (2 ^ 8:Int)=256 from by decide];exact (Int.natCast_pow 256 j).symm
 rw[e1,e2,Ot,←bG];have e3:(UInt8.ofNat (n / 256 ^ j % 256)).toNat=n / 256 ^ j % 256:=by
  rw[dz];omega
 rw[e3];generalize n / 256 ^ j=x;omega
theorem Fm: ∀(k n i:Nat)(h:i<k),(En k n)[i]'(by rw[oF];exact h)=UInt8.ofNat (n / 256 ^ (k - 1 - i) % 256)
 | k+1,n,0,_=>by simp[En]
 | k+1,n,i+1,h=>by
  simp only[En,List.getElem_cons_succ];rw[Fm k n i (by omega)];congr 4;omega
def qV (n:Nat):List EV:=(num n).map fun b=>.v (u8 (b.toNat:Nat))
def z9:List EV:=[.v (u8 0),.v (u8 0),.v (u8 0),.v (u8 0),.v (u8 0),.v (u8 0),.v (u8 0),.v (u8 0)]
theorem kV (n:Nat):(qV n).length=8:=by unfold qV;rw[ab,gh]
theorem Nu (n k:Nat)(h:k<8):(qV n)[k]'(by rw[kV];exact h)= .v (u8 ((UInt8.ofNat (n / 256 ^ (7 - k) % 256)).toNat:Nat)):=by
 unfold qV num;rw[cD,Fm 8 n k h]
attribute [local irreducible] vc dT gx fc fA gC gG gw fG Plain eu eR dH VS fq fx fD ju fe IntKind.wrap
set_option maxRecDepth 100000
theorem kD (n:Nat)(F:Hp):Plain Tryz.prog F 117 [u64 n] (S (num n)):=by
 refine dN (N:=19) (rv:=[.tmp 2]) eP mixed Tryz.func117 rfl rfl rfl rfl rfl ?_;(refine run ?_;repeat intro b);refine eU (fun k:Nat=>k≤8) (fun k=>⟨[(0,.v (u64 (n:Nat))),(3,.loc 0 0),(5,.v (i64 (k:Nat)))],F,[(0,⟨some b,(qV n).take k++z9.drop k,272,8⟩)],1⟩) (fun k=>8 - k) 0 (by decide) (VS.eH [0,3,5] rfl rfl) ?_;intro k hk;(refine run ?_;repeat intro b);refine ez _ rfl (fun h=>?_) (fun h=>?_)
 ·have hlt:k<8:=by simp at h;omega
  (refine run ?_;repeat intro b);have e1:IntKind.i64.wrap (56 - IntKind.i64.wrap (8 * (k:Int)))=((8 * (7 - k):Nat):Int):=by
   rw[wrap_i64 (n:=8 * (k:Int)) (by omega) (by omega),wrap_i64 (by omega) (by omega)];omega
  rw[e1];refine dI rfl rfl rfl (by omega) ?_;(refine run ?_;repeat intro b);rw[Mf n (7 - k) _ rfl (by omega)];refine dI rfl rfl rfl ⟨by omega,by omega⟩ ?_;have hl1:(qV n).length=z9.length:=kV n;have hk1:k<(qV n).length:=by rw[kV];exact hlt
  have hidx:(0+((k:Int).toNat) * 1)=k:=by omega
  have hlen:((qV n).take k++z9.drop k).length=8:=by
   rw[ag,aw,aR,kV];have:z9.length=8:=rfl;omega
  refine iP ((qV n).take (k+1)++z9.drop (k+1)) rfl rfl rfl rfl rfl rfl ?_ ?_ rfl ?_
  ·show 0+((k:Int).toNat) * 1+1≤((qV n).take k++z9.drop k).length;rw[hlen];omega
  ·show ((qV n).take k++z9.drop k).take (0+((k:Int).toNat) * 1)++[_]++((qV n).take k++z9.drop k).drop (0+((k:Int).toNat) * 1+1)=_;rw[hidx,←AL (qV n) z9 hl1 k hk1,Nu n k hlt]
  (refine run ?_;repeat intro b);rw[dQ (by omega)];exact fj (k+1) hlt (by omega) (VS.eH [0,3,5] rfl rfl)
 have hge:k=8:=by simp at h;omega
 subst hge;(refine run ?_;repeat intro b);have hc:(qV n).take 8++z9.drop 8=qV n:=by
  have:(qV n).length=8:=kV n;rw[an (by omega)];show qV n++[]=_;rw[bT]
 rw[hc];refine qo (num n) rfl rfl rfl rfl ?_ ?_ ?_
 ·rw[kV];exact ah 8
 ·rw[an (by rw[kV];exact ah 8)];rfl
 (refine run ?_;repeat intro b);rfl
theorem ly (n:Nat)(hn:n<18446744073709551616)(F:Hp):Plain Tryz.prog F 130 [u64 n] (S (num n)):=by
 refine dN (N:=17) (rv:=[.tmp 2]) eP mixed Tryz.func130 rfl rfl rfl rfl rfl ?_;(refine run ?_;repeat intro b);refine eU (fun k:Nat=>k≤8) (fun k=>⟨[(0,.v (u64 (n / 256 ^ k:Nat))),(3,.v (S (En k n))),(4,.v (i64 (k:Nat)))],F,[],0⟩) (fun k=>8 - k) 0 (by decide) (VS.eH [0,3,4] rfl ?_) ?_
 ·rw[Nat.pow_zero,Nat.div_one];rfl
 intro k hk;(refine run ?_;repeat intro b);refine ez _ rfl (fun h=>?_) (fun h=>?_)
 ·have hlt:k<8:=by simp at h;omega
  (refine run ?_;repeat intro b);have e1:IntKind.u8.wrap (((n / 256 ^ k:Nat):Int).tmod 256)=(((UInt8.ofNat (n / 256 ^ k % 256)).toNat:Nat):Int):=by
   have e:((n / 256 ^ k:Nat):Int).tmod 256=((n / 256 ^ k % 256:Nat):Int):=tG (n / 256 ^ k) 256;rw[e,Ot,dz];omega
  rw[e1];refine qo [UInt8.ofNat (n / 256 ^ k % 256)] rfl rfl rfl rfl (ah 1) rfl ?_;(refine run ?_;repeat intro b);refine dI rfl rfl rfl (by simp only[fX,oF,aH,cH];unfold jg;omega) ?_;(refine run ?_;repeat intro b);have hlt2:n / 256 ^ k<18446744073709551616:=Nat.lt_of_le_of_lt (Nat.div_le_self _ _) hn;have e2:IntKind.u64.wrap (((n / 256 ^ k:Nat):Int).tdiv 256)=((n / 256 ^ (k+1):Nat):Int):=by
   have e:IntKind.u64.wrap (((n / 256 ^ k:Nat):Int).tdiv 256)=((n / 256 ^ k / 256:Nat):Int):=IA (n / 256 ^ k) 256 hlt2;rw[e,Nat.div_div_eq_div_mul,Nat.pow_succ]
  rw[dQ (by omega),e2];exact iH (k+1) [0] [0,3,4] hlt (by omega) rfl rfl rfl rfl trivial rfl
 have hge:k=8:=by simp at h;omega
 subst hge;(refine run ?_;repeat intro b);rfl
end
section
open Go.TR
attribute [local irreducible] vc dT gx fc fA gC gG gw fG Plain eu eR dH VS fq fx fD ju fe IntKind.wrap
set_option maxRecDepth 100000
theorem Nq (a b:Nat)(ha:a<18446744073709551616)(hb:b<18446744073709551616)(F:Hp):Plain Tryz.prog F 118 [u64 a,u64 b] (u64 (a * b % MM:Nat)):=by
 refine dN (N:=16) (rv:=[.tmp 4]) eP mixed Tryz.func118 rfl rfl rfl rfl rfl ?_;(refine run ?_;repeat intro b);refine dG _ rfl rfl rfl Qa rfl (D5 a b ha hb F) ?_;(refine run ?_;repeat intro b);refine dG _ rfl rfl rfl UK rfl (Lh (a * b / 18446744073709551616) (a * b % 18446744073709551616) (dp _ (by decide)) F) ?_;(refine run ?_;repeat intro b);have e:zf (a * b / 18446744073709551616) (a * b % 18446744073709551616)=a * b % MM:=by
  unfold zf MM;rw[Nat.div_add_mod']
 rw[e];rfl
theorem Ei (l:List UInt8)(k:Nat)(h:k<l.length):(bl (jB l)).getD ((k:Nat):Int).toNat 0=l[k]:=by
 rw[fX,ae,aE,ao h];rfl
theorem PW (m:Nat)(c:UInt8)(hm:m<MM):(IntKind.u64.wrap (IntKind.u64.wrap (((m * HE % MM:Nat):Int)+IntKind.u64.wrap ((c.toNat:Nat):Int))+1)).tmod 2305843009213693951=((K8 m c:Nat):Int):=by
 have h1:m * HE % MM<MM:=dp _ (by decide);have h2:c.toNat<256:=c.toNat_lt;unfold K8;generalize m * HE % MM=x at *;simp only[nk];unfold MM at *;have e:(((x:Int)+((c.toNat:Nat):Int) % 18446744073709551616) % 18446744073709551616+1) % 18446744073709551616=((x+c.toNat+1:Nat):Int):=by omega
 rw[e];exact tG _ 2305843009213693951
theorem lr (l:List UInt8)(hl:l.length≤4611686018427387904)(F:Hp):Plain Tryz.prog F 62 [S l] (u64 (gg l:Nat)):=by
 refine dN (N:=21) (rv:=[.tmp 2]) eP mixed Tryz.func62 rfl rfl rfl rfl rfl ?_;(refine run ?_;repeat intro b);refine eU (fun k:Nat=>k≤l.length) (fun k=>⟨[(0,.v (S l)),(3,.v (u64 ((l.take k).foldl K8 1:Nat))),(6,.v (i64 (l.length:Nat))),(7,.v (i64 (k:Nat)))],F,[],0⟩) (fun k=>l.length - k) 0 (az _) (VS.eH [0,3,6,7] rfl rfl) ?_;intro k hk;(refine run ?_;repeat intro b);refine ez _ rfl (fun h=>?_) (fun h=>?_)
 ·have hlt:k<l.length:=by simp at h;omega
  (refine run ?_;repeat intro b);refine fM (by kernel_rfl) ?_;(refine run ?_;repeat intro b);refine dG (u64 ((l.take k).foldl K8 1 * HE % MM:Nat)) rfl rfl rfl Vb rfl (Nq _ HE (Nat.lt_trans (uw (l.take k) 1 (by decide)) (by decide)) (by decide) F) ?_;(refine run ?_;repeat intro b);refine dI rfl rfl rfl ⟨by omega,by rw[fX];omega⟩ ?_;rw[Ei l k hlt];(refine run ?_;repeat intro b);rw[dQ (by omega),PW _ _ (uw (l.take k) 1 (by decide))];refine fj (k+1) hlt (by omega) (VS.eH [0,3,6,7] rfl ?_);rw[al hlt,List.foldl_append,List.foldl_cons,List.foldl_nil]
 have hge:k=l.length:=by simp at h;omega
 (refine run ?_;repeat intro b);subst hge;rw[aD];rfl
theorem LC (a b:Nat)(ha:a<18446744073709551616)(hb:b<18446744073709551616)(F:Hp):Plain Tryz.prog F 124 [u64 a,u64 b] (u64 (a * b % MM:Nat)):=by
 refine dN (N:=26) (rv:=[.tmp 4]) eP mixed Tryz.func124 rfl rfl rfl rfl rfl ?_;(refine run ?_;repeat intro b);have e0:(a:Int).tmod 2305843009213693951=((a % MM:Nat):Int):=tG a 2305843009213693951;rw[e0];(refine run ?_;repeat intro b);refine dG _ rfl rfl rfl QE rfl (Fx b hb F) ?_;(refine run ?_;repeat intro b);obtain⟨hlt,hle⟩:=Mu b hb;generalize Bs b=n at *;refine eU (fun q:Nat×Nat×Nat×Nat=>q.1≤n∧q.2.1<MM∧q.2.2.1<2 ^ (n - q.1)∧q.2.2.2<MM∧(q.2.2.2+q.2.1 * q.2.2.1) % MM=a * b % MM∧q.2.2.1<18446744073709551616)
  (fun q=>⟨[(0,.v (u64 (q.2.1:Nat))),(1,.v (u64 (q.2.2.1:Nat))),(5,.v (u64 (q.2.2.2:Nat))),(9,.v (i64 (n:Nat))),(10,.v (i64 (q.1:Nat)))],F,[],0⟩) (fun q=>n - q.1) (0,a % MM,b,0)
  ⟨az _,dp _ (by decide),hlt,show (0:Nat)<MM from by decide,by simp only;rw[aP,Nat.mod_mul_mod],hb⟩ (VS.eH [0,1,5,9,10] rfl rfl) ?_
 rintro⟨k,x,y,o⟩ ⟨hk,hx,hy,ho,hm,Rb⟩;simp only at hk hx hy ho hm Rb;(refine run ?_;repeat intro b);refine ez _ rfl (fun h=>?_) (fun h=>?_)
 ·have hkn:k<n:=by simp at h;omega
  (refine run ?_;repeat intro b);have e1:(y:Int).tmod 2=((y % 2:Nat):Int):=tG y 2;have e2:IntKind.u64.wrap ((y:Int).tdiv 2)=((y / 2:Nat):Int):=IA y 2 Rb;have e3:(IntKind.u64.wrap (2 * (x:Int))).tmod 2305843009213693951=((2 * x % MM:Nat):Int):=by
   rw[Rt,Nat.mod_eq_of_lt (by unfold MM at hx;omega)];exact tG _ 2305843009213693951
  have e4:(IntKind.u64.wrap ((o:Int)+(x:Int))).tmod 2305843009213693951=(((o+x) % MM:Nat):Int):=by
   rw[Io,Nat.mod_eq_of_lt (by unfold MM at hx ho;omega)];exact tG _ 2305843009213693951
  have hy2:y / 2<2 ^ (n - (k+1)):=by
   have:2 ^ (n - k)=2 * 2 ^ (n - (k+1)):=by rw[show n - k=(n - (k+1))+1 by omega,Nat.pow_succ,Nat.mul_comm]
   omega
  refine ez _ rfl (fun h2=>?_) (fun h2=>?_)
  ·rw[e1]at h2;have hodd:y % 2=1:=by simp at h2;omega
   (refine run ?_;repeat intro b);rw[dQ (by omega),e2,e3,e4];refine fj (k+1,2 * x % MM,y / 2,(o+x) % MM) ⟨hkn,dp _ (by decide),hy2,dp _ (by decide),?_,by simp only;omega⟩ (by simp only;omega) (VS.eH [0,1,5,9,10] rfl rfl);simp only;rw[←hm];have g1:((o+x) % MM+2 * x % MM * (y / 2)) % MM=((o+x)+2 * x * (y / 2)) % MM:=MN (Nat.mod_mod _ _) (OL (Nat.mod_mod _ _) rfl);rw[g1];congr 1;have:y=2 * (y / 2)+1:=by omega
   generalize y / 2=z at *;subst this
   grind
  rw[e1]at h2;have aaa:y % 2=0:=by simp at h2;omega
  (refine run ?_;repeat intro b);rw[dQ (by omega),e2,e3];refine fj (k+1,2 * x % MM,y / 2,o) ⟨hkn,dp _ (by decide),hy2,ho,?_,by simp only;omega⟩ (by simp only;omega) (VS.eH [0,1,5,9,10] rfl rfl);simp only;rw[←hm];have g1:(o+2 * x % MM * (y / 2)) % MM=(o+2 * x * (y / 2)) % MM:=MN rfl (OL (Nat.mod_mod _ _) rfl);rw[g1];congr 1;have:y=2 * (y / 2):=by omega
  generalize y / 2=z at *;subst this
  grind
 have hge:k=n:=by simp at h;omega
 subst hge;rw[Nat.sub_self]at hy;have hy0:y=0:=by omega
 subst hy0;(refine run ?_;repeat intro b);rw[Nat.mul_zero,df,Nat.mod_eq_of_lt ho]at hm;rw[hm];rfl
end
section
open Go.TR
attribute [local irreducible] vc dT gx fc fA gC gG gw fG Plain eu eR dH VS fq fx fD ju fe IntKind.wrap
set_option maxRecDepth 100000
theorem RG (c:UInt8):IntKind.u64.wrap (IntKind.u64.wrap ((c.toNat:Nat):Int)+1)=((c.toNat+1:Nat):Int):=by
 have h2:c.toNat<256:=c.toNat_lt;simp only[nk];omega
theorem IP (x y:Nat)(hx:x<MM)(hy:y<MM):(IntKind.u64.wrap ((x:Int)+(y:Int))).tmod 2305843009213693951=(((x+y) % MM:Nat):Int):=by
 rw[Io,Nat.mod_eq_of_lt (by unfold MM at hx hy;omega)];exact tG _ 2305843009213693951
theorem jU (l:List UInt8)(hl:l.length≤4611686018427387904)(F:Hp):Plain Tryz.prog F 67 [S l] (u64 (gg l:Nat)):=by
 refine dN (N:=29) (rv:=[.tmp 2]) eP mixed Tryz.func67 rfl rfl rfl rfl rfl ?_;(refine run ?_;repeat intro b);refine eU (fun k:Nat=>k≤l.length) (fun k=>⟨[(0,.v (S l)),(3,.v (u64 ((sp (l.drop k)).1:Nat))),(4,.v (u64 ((sp (l.drop k)).2:Nat))),(5,.v (i64 ((k:Int) - 1)))],F,[],0⟩) (fun k=>k) l.length (ah _) (VS.eH [0,3,4,5] rfl ?_) ?_
 ·rw[bZ,fX,wrap_i64 (by omega) (by omega)];rfl
 intro k hk;(refine run ?_;repeat intro b);refine ez _ rfl (fun h=>?_) (fun h=>?_)
 ·have hpos:1≤k:=by simp at h;omega
  obtain⟨j,rfl⟩: ∃j,k=j+1:=⟨k - 1,by omega⟩;have hlt:j<l.length:=by omega
  have hidx:(((j+1:Nat):Int) - 1)=(j:Int):=by omega
  obtain⟨h1,h2⟩:=QO (l.drop (j+1));have hd:l.drop j=l[j]::l.drop (j+1):=aO hlt;(refine run ?_;repeat intro b);rw[hidx];refine dI rfl rfl rfl ⟨by omega,by rw[fX];omega⟩ ?_;rw[Ei l j hlt];(refine run ?_;repeat intro b);rw[RG];have hc:l[j].toNat<256:=l[j].toNat_lt;refine dG _ rfl rfl rfl QU rfl (LC _ _ (Nat.lt_trans h2 (by decide)) (by omega) F) ?_;(refine run ?_;repeat intro b);refine dG (u64 ((sp (l.drop (j+1))).2 * HE % MM:Nat)) rfl rfl rfl QU rfl (LC _ HE (Nat.lt_trans h2 (by decide)) (by decide) F) ?_;(refine run ?_;repeat intro b);rw[wrap_i64 (n:=(j:Int) - 1) (by omega) (by omega),IP _ _ h1 (dp _ (by decide))];refine fj j (by omega) (by omega) (VS.eH [0,3,4,5] rfl ?_);rw[hd];simp only[sp]
 have hz:k=0:=by simp at h;omega
 subst hz;(refine run ?_;repeat intro b);obtain⟨h1,h2⟩:=QO l;rw[List.drop_zero,IP _ _ h1 h2,MA];rfl
def Ja (a b:Nat)(n:Int):Bool:=decide (MM≤a)||decide (MM≤b)||decide (n<0)||decide (600<n)
def Zw (a b:Nat)(n:Int):Nat:=if Ja a b n=true then 0 else (a * Si n.toNat % MM+b+MM - Si n.toNat) % MM
def Zt (a b:Nat)(n:Int):Int:=if Ja a b n=true then 4 else 0
theorem LO (a:Nat):decide ((2305843009213693951:Int)≤(a:Int))=decide (MM≤a):=by
 unfold MM;congr 1;exact propext ⟨fun h=>by omega,fun h=>by omega⟩
end
section
open Go.TR
attribute [local irreducible] vc dT gx fc fA gC gG gw fG Plain eu eR dH VS fq fx fD ju fe IntKind.wrap
set_option maxRecDepth 100000
theorem Iu (kind a b:Nat)(hk:kind<256)(ha:a<18446744073709551616)(hb:b<18446744073709551616)(F:Hp):Plain Tryz.prog F 266 [u8 kind,u64 a,u64 b] (S (two kind a b)):=by
 have hkind:((kind:Nat):Int)=(((UInt8.ofNat kind).toNat:Nat):Int):=by rw[dz];omega
 rw[hkind];refine dN (N:=16) (rv:=[.tmp 6]) eP mixed Tryz.func266 rfl rfl rfl rfl rfl ?_;(refine run ?_;repeat intro b);refine fz [] (by kernel_rfl) ?_;refine dR [0,3,6,4,7] (f':=5) (by kernel_rfl) rfl rfl rfl ?_;(refine run ?_;repeat intro b);refine dG _ rfl rfl rfl ug rfl (kD a  F) ?_;(refine run ?_;repeat intro b);refine dG _ rfl rfl rfl ug rfl (kD b  F) ?_;(refine run ?_;repeat intro b);refine dY 1 (by kernel_rfl) rfl rfl ?_;(refine run ?_;repeat intro b);refine eC (Hp.sub.refl _) trivial ?_;refine dY 2 (by kernel_rfl) rfl rfl ?_;refine qo [UInt8.ofNat kind] rfl rfl rfl rfl (ah 1) rfl ?_;(refine run ?_;repeat intro b);refine eC (Hp.sub.refl _) trivial ?_;refine dR [5,8,9] (f':=0) (by kernel_rfl) rfl rfl rfl ?_;refine dI rfl rfl rfl (by simp only[fX,gh,aH,cH];unfold jg;omega) ?_;(refine run ?_;repeat intro b);refine dI rfl rfl rfl (by simp only[fX,gh,aH,cH,ag];unfold jg;omega) ?_;(refine run ?_;repeat intro b);refine fk (by kernel_rfl) ?_;(refine run ?_;repeat intro b);simp only[gE,fX,two,bV,cX,bM]
theorem Jv (kind a b:Nat)(hk:kind<256)(ha:a<18446744073709551616)(hb:b<18446744073709551616)(F:Hp):Plain Tryz.prog F 246 [u8 kind,u64 a,u64 b] (S (two kind a b)):=by
 have hkind:((kind:Nat):Int)=(((UInt8.ofNat kind).toNat:Nat):Int):=by rw[dz];omega
 rw[hkind];refine dN (N:=16) (rv:=[.tmp 6]) eP mixed Tryz.func246 rfl rfl rfl rfl rfl ?_;(refine run ?_;repeat intro b);refine fz [] (by kernel_rfl) ?_;refine dR [0,3,6,4,7] (f':=5) (by kernel_rfl) rfl rfl rfl ?_;(refine run ?_;repeat intro b);refine dG _ rfl rfl rfl uu rfl (ly a ha F) ?_;(refine run ?_;repeat intro b);refine dG _ rfl rfl rfl uu rfl (ly b hb F) ?_;(refine run ?_;repeat intro b);refine dY 1 (by kernel_rfl) rfl rfl ?_;(refine run ?_;repeat intro b);refine eC (Hp.sub.refl _) trivial ?_;refine dY 2 (by kernel_rfl) rfl rfl ?_;refine qo [UInt8.ofNat kind] rfl rfl rfl rfl (ah 1) rfl ?_;(refine run ?_;repeat intro b);refine eC (Hp.sub.refl _) trivial ?_;refine dR [5,8,9] (f':=0) (by kernel_rfl) rfl rfl rfl ?_;refine dI rfl rfl rfl (by simp only[fX,gh,aH,cH];unfold jg;omega) ?_;(refine run ?_;repeat intro b);refine dI rfl rfl rfl (by simp only[fX,gh,aH,cH,ag];unfold jg;omega) ?_;(refine run ?_;repeat intro b);refine fk (by kernel_rfl) ?_;(refine run ?_;repeat intro b);simp only[gE,fX,two,bV,cX,bM]
theorem yG (kind a b:Nat):(two kind a b).length=17:=by
 unfold two;simp only[aH,ag,gh]
theorem Gz (kind a b:Nat)(hk:kind<256)(ha:a<18446744073709551616)(hb:b<18446744073709551616)(F:Hp):Plain Tryz.prog F 216 [u8 kind,u64 a,u64 b] (u64 (gg (two kind a b):Nat)):=by
 refine dN (N:=12) (rv:=[.tmp 6]) eP mixed Tryz.func216 rfl rfl rfl rfl rfl ?_;(refine run ?_;repeat intro b);refine dG _ rfl rfl rfl Qe rfl (Iu kind a b hk ha hb F) ?_;(refine run ?_;repeat intro b);refine dG _ rfl rfl rfl C9 rfl (lr (two kind a b) (by rw[yG];decide) F) ?_;(refine run ?_;repeat intro b);rfl
end
section
open Go.TR
structure Head where
 dW:Int
 root:Nat
 prev:Nat
 at_:Int
deriving DecidableEq
@[reducible] def Head.v (h:Head):Value:=.agg #[i64 h.dW,u64 (h.root:Nat),u64 (h.prev:Nat),i64 h.at_]
def Head.none:Head:=⟨0,0,0,0⟩
structure Head.wf (h:Head):Prop where
 root:h.root<18446744073709551616
 prev:h.prev<18446744073709551616
 dW: -9223372036854775808≤h.dW∧h.dW≤9223372036854775807
 at_: -9223372036854775808≤h.at_∧h.at_≤9223372036854775807
def Head.vu (h:Head):Bool:=decide (h.dW<0)||decide (1000000<h.dW)||decide (MM≤h.root)||decide (MM≤h.prev)||decide (h.at_<0)||decide (1000000000<h.at_)
def Head.xG (h:Head):Bool:=(h.dW==0)&& !((h.prev:Int)==0)
def Head.fault (h:Head):Int:=if h.vu=true then 4 else if h.xG=true then 3 else 0
def S0 (n:Int):Nat:=(n % 18446744073709551616).toNat
theorem xw (n:Int):IntKind.u64.wrap n=((S0 n:Nat):Int):=by unfold S0;rw [nk];omega
theorem Lt (n:Int):S0 n<18446744073709551616:=by unfold S0;omega
def Head.said (h:Head):List UInt8:=3::(num (S0 h.dW)++num h.root++num h.prev++num (S0 h.at_))
theorem wb (h:Head):h.said.length=33:=by
 unfold Head.said;simp only[aH,ag,gh]
def Head.mark (h:Head):Nat:=gg h.said
theorem Head.uO {h:Head}(e:h.fault=0):0≤h.dW∧h.dW≤1000000∧h.root<MM∧h.prev<MM∧0≤h.at_∧h.at_≤1000000000∧(h.dW=0→h.prev=0):=by
 unfold Head.fault at e;by_cases h1:h.vu=true
 ·rw[aZ h1]at e;cases e
 rw[aY h1]at e;by_cases h2:h.xG=true
 ·rw[aZ h2]at e;cases e
 unfold Head.vu at h1;unfold Head.xG at h2;simp at h1 h2;refine⟨by omega,by omega,by omega,by omega,by omega,by omega,fun h0=>?_⟩;have:=h2 h0;omega
def be (l:List UInt8):Nat:=l.foldl (fun n c=>256 * n+c.toNat) 0
def wu (s:List UInt8)(i:Nat):Nat:=be ((s.take (9+8 * i)).drop (1+8 * i))
def Zn (n:Nat):Int:=IntKind.i64.wrap (n:Int)
def Ml (s:List UInt8):Head:=⟨Zn (wu s 0),wu s 1,wu s 2,Zn (wu s 3)⟩
end
section
open Go.TR
def ZZ (l:List UInt8):Nat:=if l.length=8 then be l else 0
attribute [local irreducible] vc dT gx fc fA gC gG gw fG Plain eu eR dH VS fq fx fD ju fe IntKind.wrap
set_option maxRecDepth 100000
end
section
open Go.TR
attribute [local irreducible] vc dT gx fc fA gC gG gw fG Plain eu eR dH VS fq fx fD ju fe IntKind.wrap
set_option maxRecDepth 100000
theorem DX (h:Head):(decide (h.dW<0)||decide (1000000<h.dW)||decide ((2305843009213693951:Int)≤(h.root:Int))||decide ((2305843009213693951:Int)≤(h.prev:Int))||decide (h.at_<0)||decide (1000000000<h.at_))=h.vu:=by
 unfold Head.vu;rw[LO,LO]
theorem oE (h:Head)(F:Hp):Plain Tryz.prog F 185 [h.v] (i64 h.fault):=by
 refine dN (N:=39) (rv:=[.tmp 2]) eP mixed Tryz.func185 rfl rfl rfl rfl rfl ?_;(refine run ?_;repeat intro b);refine ez h.vu ?_ (fun h1=>?_) (fun h1=>?_)
 ·simp only[←DX,←fu];rfl
 ·(refine run ?_;repeat intro b);simp only[gE,Head.fault,h1,dC]
 (refine run ?_;repeat intro b);refine ez h.xG ?_ (fun h2=>?_) (fun h2=>?_)
 ·unfold Head.xG;rw[←fH];rfl
 ·(refine run ?_;repeat intro b);simp only[gE,Head.fault,h1,h2,dC];rfl
 (refine run ?_;repeat intro b);simp only[gE,Head.fault,h1,h2];rfl
theorem kC (h:Head)(F:Hp):Plain Tryz.prog F 49 [h.v] (i64 h.fault):=by
 refine dN (N:=41) (rv:=[.tmp 2]) eP mixed Tryz.func49 rfl rfl rfl rfl rfl ?_;(refine run ?_;repeat intro b);refine ez h.vu ?_ (fun h1=>?_) (fun h1=>?_)
 ·simp only[←DX,←fu];rfl
 ·(refine run ?_;repeat intro b);simp only[gE,Head.fault,h1,dC]
 (refine run ?_;repeat intro b);refine ez h.xG ?_ (fun h2=>?_) (fun h2=>?_)
 ·unfold Head.xG;rw[←fH];rfl
 ·(refine run ?_;repeat intro b);simp only[gE,Head.fault,h1,h2,dC];rfl
 (refine run ?_;repeat intro b);simp only[gE,Head.fault,h1,h2];rfl
theorem zF (h:Head)(hw:h.wf)(F:Hp):Plain Tryz.prog F 146 [h.v] (S h.said):=by
 refine dN (N:=21) (rv:=[.tmp 2]) eP mixed Tryz.func146 rfl rfl rfl rfl rfl ?_;(refine run ?_;repeat intro b);refine fM (by kernel_rfl) ?_;(refine run ?_;repeat intro b);rw[xw];refine dG _ rfl rfl rfl uu rfl (ly _ (Lt _) F) ?_;(refine run ?_;repeat intro b);refine dI rfl rfl rfl (by simp only[fX,gh,aH,cH];unfold jg;decide) ?_;(refine run ?_;repeat intro b);refine dG _ rfl rfl rfl uu rfl (ly _ hw.root F) ?_;(refine run ?_;repeat intro b);refine dI rfl rfl rfl (by simp only[fX,gh,aH,cH,ag];unfold jg;decide) ?_;(refine run ?_;repeat intro b);refine dG _ rfl rfl rfl uu rfl (ly _ hw.prev F) ?_;(refine run ?_;repeat intro b);refine dI rfl rfl rfl (by simp only[fX,gh,aH,cH,ag];unfold jg;decide) ?_;(refine run ?_;repeat intro b);rw[xw h.at_];refine dG _ rfl rfl rfl uu rfl (ly _ (Lt _) F) ?_;(refine run ?_;repeat intro b);refine dI rfl rfl rfl (by simp only[fX,gh,aH,cH,ag];unfold jg;decide) ?_;(refine run ?_;repeat intro b);simp only[gE,fX,Head.said,bV,cX,bM];rfl
theorem rz (h:Head)(hw:h.wf)(F:Hp):Plain Tryz.prog F 87 [h.v] (u64 (h.mark:Nat)):=by
 refine dN (N:=6) (rv:=[.tmp 2]) eP mixed Tryz.func87 rfl rfl rfl rfl rfl ?_;(refine run ?_;repeat intro b);refine dG (S h.said) rfl rfl rfl TW rfl (zF h hw F) ?_;(refine run ?_;repeat intro b);refine dG _ rfl rfl rfl vQ rfl (jU h.said (by rw[wb];decide) F) ?_;(refine run ?_;repeat intro b);rfl
def Head.na (h:Head):List UInt8:=if h.fault=0 then h.said else []
def Head.qY (h:Head):Nat:=if h.fault=0 then h.mark else 0
theorem Eb (h:Head)(hw:h.wf)(F:Hp):Plain Tryz.prog F 61 [h.v] (pair (S h.na) (i64 h.fault)):=by
 refine dN (N:=30) (rv:=[.tmp 2,.tmp 3]) eP mixed Tryz.func61 rfl rfl rfl rfl rfl ?_;(refine run ?_;repeat intro b);refine dG (i64 h.fault) rfl rfl rfl Gq rfl (kC h F) ?_;(refine run ?_;repeat intro b);refine ez _ rfl (fun h1=>?_) (fun h1=>?_)
 ·have h2: ¬h.fault=0:=by simpa using h1
  (refine run ?_;repeat intro b);simp only[gE,Head.na,aY h2];rfl
 have h2:h.fault=0:=by simpa using h1
 (refine run ?_;repeat intro b);refine fz [0] (by kernel_rfl) ?_;refine dR [2,3,4,5,7,8,9,11,12,13,15,16,17,18] (f':=8) (by kernel_rfl) rfl rfl rfl ?_;(refine run ?_;repeat intro b);rw[xw];refine dG _ rfl rfl rfl ug rfl (kD _ F) ?_;(refine run ?_;repeat intro b);refine dG _ rfl rfl rfl ug rfl (kD _ F) ?_;(refine run ?_;repeat intro b);refine dG _ rfl rfl rfl ug rfl (kD _ F) ?_;(refine run ?_;repeat intro b);rw[xw h.at_];refine dG _ rfl rfl rfl ug rfl (kD _ F) ?_;(refine run ?_;repeat intro b);refine dY 0 (by kernel_rfl) rfl rfl ?_;(refine run ?_;repeat intro b);refine eC (Hp.sub.refl _) ⟨⟨rfl,⟨rfl,rfl,rfl,rfl,trivial⟩⟩,trivial⟩ ?_;refine dY 1 (by kernel_rfl) rfl rfl ?_;refine qo [3] rfl rfl rfl rfl (ah 1) rfl ?_;(refine run ?_;repeat intro b);refine eC (Hp.sub.refl _) ⟨⟨rfl,⟨rfl,rfl,rfl,rfl,trivial⟩⟩,trivial⟩ ?_;refine dR [6,10,14,19,20,21] (f':=0) (by kernel_rfl) rfl rfl rfl ?_;refine dI rfl rfl rfl (by simp only[fX,gh,aH,cH];unfold jg;decide) ?_;(refine run ?_;repeat intro b);refine dI rfl rfl rfl (by simp only[fX,gh,aH,cH,ag];unfold jg;decide) ?_;(refine run ?_;repeat intro b);refine dI rfl rfl rfl (by simp only[fX,gh,aH,cH,ag];unfold jg;decide) ?_;(refine run ?_;repeat intro b);refine dI rfl rfl rfl (by simp only[fX,gh,aH,cH,ag];unfold jg;decide) ?_;(refine run ?_;repeat intro b);refine fk (by kernel_rfl) ?_;(refine run ?_;repeat intro b);simp only[gE,Head.na,h2,dC,fX,Head.said,bV,cX,bM]
theorem Fe (h:Head)(hw:h.wf)(F:Hp):Plain Tryz.prog F 59 [h.v] (pair (u64 (h.qY:Nat)) (i64 h.fault)):=by
 refine dN (N:=16) (rv:=[.tmp 2,.tmp 3]) eP mixed Tryz.func59 rfl rfl rfl rfl rfl ?_;(refine run ?_;repeat intro b);refine dG (pair (S h.na) (i64 h.fault)) rfl rfl rfl Yk rfl (Eb h hw F) ?_;(refine run ?_;repeat intro b);refine ez _ rfl (fun h1=>?_) (fun h1=>?_)
 ·have h2: ¬h.fault=0:=by simpa using h1
  (refine run ?_;repeat intro b);simp only[gE,Head.qY,aY h2];rfl
 have h2:h.fault=0:=by simpa using h1
 have h3:h.na=h.said:=by unfold Head.na;rw[aZ h2]
 (refine run ?_;repeat intro b);rw[h3];refine dG _ rfl rfl rfl C9 rfl (lr h.said (by rw[wb];decide) F) ?_;(refine run ?_;repeat intro b);simp only[gE,Head.qY,aZ h2,h2];rfl
def Head.hU (h:Head)(e:Int):Head:=if e=0 then h else Head.none
theorem Cd (root:Nat)(at_:Int)(F:Hp):Plain Tryz.prog F 35 [u64 root,i64 at_] (pair ((⟨0,root,0,at_⟩:Head).hU (⟨0,root,0,at_⟩:Head).fault).v (i64 (⟨0,root,0,at_⟩:Head).fault)):=by
 refine dN (N:=18) (rv:=[.cell 4 41,.tmp 5]) eP mixed Tryz.func35 rfl rfl rfl rfl rfl ?_;(refine run ?_;repeat intro b);refine dG (i64 (⟨0,root,0,at_⟩:Head).fault) rfl rfl rfl Gq rfl (kC ⟨0,root,0,at_⟩ F) ?_;(refine run ?_;repeat intro b);refine ez _ rfl (fun h1=>?_) (fun h1=>?_)
 ·have h2: ¬(⟨0,root,0,at_⟩:Head).fault=0:=by simpa using h1
  (refine run ?_;repeat intro b);simp only[gE,Head.hU,aY h2];rfl
 have h2:(⟨0,root,0,at_⟩:Head).fault=0:=by simpa using h1
 (refine run ?_;repeat intro b);simp only[gE,Head.hU,aZ h2,h2];rfl
def Head.nc (h:Head)(root:Nat)(at_:Int):Head:=⟨IntKind.i64.wrap (h.dW+1),root,h.qY,at_⟩
def Head.ku (h:Head)(root:Nat)(at_:Int):Int:=if h.fault≠0 then h.fault else if h.dW=1000000 then 7 else if at_<h.at_ then 4 else (h.nc root at_).fault
set_option maxHeartbeats 2000000 in
theorem wG (h:Head)(hw:h.wf)(root:Nat)(at_:Int)(F:Hp):Plain Tryz.prog F 98 [h.v,u64 root,i64 at_] (pair ((h.nc root at_).hU (h.ku root at_)).v (i64 (h.ku root at_))):=by
 refine dN (N:=46) (rv:=[.cell 6 41,.tmp 7]) eP mixed Tryz.func98 rfl rfl rfl rfl rfl ?_;(refine run ?_;repeat intro b);refine dG (pair (u64 (h.qY:Nat)) (i64 h.fault)) rfl rfl rfl X2 rfl (Fe h hw F) ?_;(refine run ?_;repeat intro b);refine ez _ rfl (fun h1=>?_) (fun h1=>?_)
 ·have h2:h.fault≠0:=by simpa using h1
  (refine run ?_;repeat intro b);simp only[gE,Head.ku,aZ h2,Head.hU,aY h2];rfl
 have h2: ¬h.fault≠0:=by simpa using h1
 (refine run ?_;repeat intro b);refine ez _ rfl (fun h3=>?_) (fun h3=>?_)
 ·have h4:h.dW=1000000:=by simpa using h3
  (refine run ?_;repeat intro b);simp only[gE,Head.ku,aY h2,aZ h4,Head.hU];rfl
 have h4: ¬h.dW=1000000:=by simpa using h3
 (refine run ?_;repeat intro b);refine ez _ rfl (fun h5=>?_) (fun h5=>?_)
 ·have h6:at_<h.at_:=by simpa using h5
  (refine run ?_;repeat intro b);simp only[gE,Head.ku,aY h2,aY h4,aZ h6,Head.hU];rfl
 have h6: ¬at_<h.at_:=by simpa using h5
 (refine run ?_;repeat intro b);refine dG (i64 (h.nc root at_).fault) rfl rfl rfl Gq rfl (kC (h.nc root at_) F) ?_;(refine run ?_;repeat intro b);refine ez _ rfl (fun h7=>?_) (fun h7=>?_)
 ·have h8: ¬(h.nc root at_).fault=0:=by simpa using h7
  (refine run ?_;repeat intro b);simp only[gE,Head.ku,aY h2,aY h4,aY h6,Head.hU,aY h8];rfl
 have h8:(h.nc root at_).fault=0:=by simpa using h7
 (refine run ?_;repeat intro b);simp only[gE,Head.ku,aY h2,aY h4,aY h6,Head.hU,aZ h8,h8];rfl
end
end Go.Proofs.YthbnddgjkonkdaaGreatDoor
