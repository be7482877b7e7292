/- A part of the proof. -/
import Derived.Test.YthbnddgjkonkdaaGreatDoorSetDiv
set_option linter.unusedVariables false
set_option linter.unusedSimpArgs false
namespace Go.Proofs.YthbnddgjkonkdaaGreatDoor
section
open Go.TR
def MM:Nat:=2305843009213693951
def GQ:Nat:=1099511628211
def Lb (m:Nat)(c:UInt8):Nat:=(m * GQ % MM+c.toNat+1) % MM
def gj (l:List UInt8):Nat:=l.foldl Lb 1
theorem Si (m:Nat)(c:UInt8):Lb m c<MM:=du _ (by decide)
theorem tO: ∀(l:List UInt8)(m:Nat),m<MM→l.foldl Lb m<MM
 | [],m,h=>h
 | c::l,m,_=>tO l _ (Si m c)
theorem ln (l:List UInt8):gj l<MM:=tO l 1 (by decide)
theorem LM {a a' b b':Nat}(h:a % MM=a' % MM)(k:b % MM=b' % MM):(a+b) % MM=(a'+b') % MM:=by rw[Nat.add_mod,h,k,←Nat.add_mod]
theorem OR {a a' b b':Nat}(h:a % MM=a' % MM)(k:b % MM=b' % MM):(a * b) % MM=(a' * b') % MM:=by rw[Nat.mul_mod,h,k,←Nat.mul_mod]
def sp:List UInt8→Nat×Nat
 | []=>(0,1)
 | c::l=>(((sp l).1+(sp l).2 * (c.toNat+1) % MM) % MM,(sp l).2 * GQ % MM)
theorem Qk: ∀l,(sp l).1<MM∧(sp l).2<MM
 | []=>⟨by decide,by decide⟩
 | c::l=>⟨du _ (by decide),du _ (by decide)⟩
theorem IG: ∀(l:List UInt8)(m:Nat),l.foldl Lb m % MM=(m * (sp l).2+(sp l).1) % MM
 | [],m=>by simp[sp]
 | c::l,m=>by
  rw[List.foldl_cons,IG l (Lb m c)];simp only[sp];have h1:Lb m c % MM=(m * GQ+(c.toNat+1)) % MM:=by
   unfold Lb;rw[Nat.mod_mod,Nat.add_assoc,Nat.mod_add_mod]
  have e1:(Lb m c * (sp l).2+(sp l).1) % MM=((m * GQ+(c.toNat+1)) * (sp l).2+(sp l).1) % MM:=LM (OR h1 rfl) rfl;have e2:(m * ((sp l).2 * GQ % MM)+((sp l).1+(sp l).2 * (c.toNat+1) % MM) % MM) % MM=(m * ((sp l).2 * GQ)+((sp l).1+(sp l).2 * (c.toNat+1))) % MM:=
   LM (OR rfl (Nat.mod_mod _ _)) (by rw[Nat.mod_mod];exact LM rfl (Nat.mod_mod _ _))
  rw[e1,e2];congr 1;generalize (sp l).2=p;generalize (sp l).1=s;generalize c.toNat+1=d;generalize GQ=b
  grind
theorem Mn (l:List UInt8):((sp l).1+(sp l).2) % MM=gj l:=by
 have h:=IG l 1;rw[Nat.mod_eq_of_lt (tO l 1 (by decide)),Nat.one_mul,Nat.add_comm]at h;exact h.symm
def R2:Nat→Nat
 | 0=>1
 | n+1=>R2 n * GQ % MM
def EK:Nat→Nat→List UInt8
 | 0,_=>[]
 | k+1,n=>UInt8.ofNat (n / 256 ^ k % 256)::EK k n
theorem oH: ∀k n,(EK k n).length=k
 | 0,_=>rfl
 | k+1,n=>by simp only[EK,aH,oH k n]
def num (n:Nat):List UInt8:=EK 8 n
theorem gl (n:Nat):(num n).length=8:=oH 8 n
def two (kind a b:Nat):List UInt8:=UInt8.ofNat kind::(num a++num b)
theorem AA {α:Type}(L Z:List α)(h:L.length=Z.length)(k:Nat)(hk:k<L.length):(L.take k++Z.drop k).take k++[L[k]]++(L.take k++Z.drop k).drop (k+1)=L.take (k+1)++Z.drop (k+1):=by
 have e1:(L.take k).length=k:=by simp;omega
 have e2:(L.take k++Z.drop k).take k=L.take k:=by
  have:=List.take_left (l₁:=L.take k) (l₂:=Z.drop k)
  rwa [e1]at this
 have e3:(L.take k++Z.drop k).drop (k+1)=Z.drop (k+1):=by
  rw[List.drop_append,e1];rw[List.drop_of_length_le (by omega),c7,List.drop_drop];congr 1;omega
 rw[e2,e3,al hk]
end
section
open Go.TR
theorem MV (n:Nat)(j s:Nat)(hs:s=8 * j)(hj:j≤7):IntKind.u8.wrap (Int.fdiv (n:Int) (2 ^ min (Int.toNat (s:Int)) IntKind.u64.bits))=(((UInt8.ofNat (n / 256 ^ j % 256)).toNat:Nat):Int):=by
 subst hs;have e1:min (Int.toNat ((8 * j:Nat):Int)) IntKind.u64.bits=8 * j:=by simp[IntKind.bits];omega
 have e2:(2 ^ (8 * j):Int)=((256 ^ j:Nat):Int):=by
  rw[Int.pow_mul,show (2 ^ 8:Int)=256 from by decide];exact (Int.natCast_pow 256 j).symm
 rw[e1,e2,Ox,←bG];have e3:(UInt8.ofNat (n / 256 ^ j % 256)).toNat=n / 256 ^ j % 256:=by
  rw[dC];omega
 rw[e3];generalize n / 256 ^ j=x;omega
theorem DE: ∀(k n i:Nat)(h:i<k),(EK k n)[i]'(by rw[oH];exact h)=UInt8.ofNat (n / 256 ^ (k - 1 - i) % 256)
 | k+1,n,0,_=>by simp[EK]
 | k+1,n,i+1,h=>by
  simp only[EK,List.getElem_cons_succ];rw[DE k n i (by omega)];congr 4;omega
def rP (n:Nat):List EV:=(num n).map fun b=>.v (u8 (b.toNat:Nat))
def Ay:List EV:=[.v (u8 0),.v (u8 0),.v (u8 0),.v (u8 0),.v (u8 0),.v (u8 0),.v (u8 0),.v (u8 0)]
theorem lj (n:Nat):(rP n).length=8:=by unfold rP;rw[ab,gl]
theorem N0 (n k:Nat)(h:k<8):(rP n)[k]'(by rw[lj];exact h)= .v (u8 ((UInt8.ofNat (n / 256 ^ (7 - k) % 256)).toNat:Nat)):=by
 unfold rP num;rw[cG,DE 8 n k h]
attribute [local irreducible] vc dW gz fg fD gF gJ gB fJ Plain eD eX dK VS fv fA fG jt fh IntKind.wrap
set_option maxRecDepth 100000
theorem kC (n:Nat)(F:Hp):Plain Tryz.prog F 117 [u64 n] (S (num n)):=by
 refine dQ (N:=19) (rv:=[.tmp 2]) eW mixed Tryz.func117 rfl rfl rfl rfl rfl ?_;(refine run ?_;repeat intro b);refine eY (fun k:Nat=>k≤8) (fun k=>⟨[(0,.v (u64 (n:Nat))),(3,.loc 0 0),(5,.v (i64 (k:Nat)))],F,[(0,⟨some b,(rP n).take k++Ay.drop k,272,8⟩)],1⟩) (fun k=>8 - k) 0 (by decide) (VS.eL [0,3,5] rfl rfl) ?_;intro k hk;(refine run ?_;repeat intro b);refine eE _ rfl (fun h=>?_) (fun h=>?_)
 ·have hlt:k<8:=by simp at h;omega
  (refine run ?_;repeat intro b);have e1:IntKind.i64.wrap (56 - IntKind.i64.wrap (8 * (k:Int)))=((8 * (7 - k):Nat):Int):=by
   rw[wrap_i64 (n:=8 * (k:Int)) (by omega) (by omega),wrap_i64 (by omega) (by omega)];omega
  rw[e1];refine dL rfl rfl rfl (by omega) ?_;(refine run ?_;repeat intro b);rw[MV n (7 - k) _ rfl (by omega)];refine dL rfl rfl rfl ⟨by omega,by omega⟩ ?_;have hl1:(rP n).length=Ay.length:=lj n;have hk1:k<(rP n).length:=by rw[lj];exact hlt
  have hidx:(0+((k:Int).toNat) * 1)=k:=by omega
  have hlen:((rP n).take k++Ay.drop k).length=8:=by
   rw[ag,aw,aR,lj];have:Ay.length=8:=rfl;omega
  refine iS ((rP n).take (k+1)++Ay.drop (k+1)) rfl rfl rfl rfl rfl rfl ?_ ?_ rfl ?_
  ·show 0+((k:Int).toNat) * 1+1≤((rP n).take k++Ay.drop k).length;rw[hlen];omega
  ·show ((rP n).take k++Ay.drop k).take (0+((k:Int).toNat) * 1)++[_]++((rP n).take k++Ay.drop k).drop (0+((k:Int).toNat) * 1+1)=_;rw[hidx,←AA (rP n) Ay hl1 k hk1,N0 n k hlt]
  (refine run ?_;repeat intro b);rw[dT (by omega)];exact fp (k+1) hlt (by omega) (VS.eL [0,3,5] rfl rfl)
 have hge:k=8:=by simp at h;omega
 subst hge;(refine run ?_;repeat intro b);have hc:(rP n).take 8++Ay.drop 8=rP n:=by
  have:(rP n).length=8:=lj n;rw[an (by omega)];show rP n++[]=_;rw[bV]
 rw[hc];refine qx (num n) rfl rfl rfl rfl ?_ ?_ ?_
 ·rw[lj];exact ah 8
 ·rw[an (by rw[lj];exact ah 8)];rfl
 (refine run ?_;repeat intro b);rfl
theorem lE (n:Nat)(hn:n<18446744073709551616)(F:Hp):Plain Tryz.prog F 130 [u64 n] (S (num n)):=by
 refine dQ (N:=17) (rv:=[.tmp 2]) eW mixed Tryz.func130 rfl rfl rfl rfl rfl ?_;(refine run ?_;repeat intro b);refine eY (fun k:Nat=>k≤8) (fun k=>⟨[(0,.v (u64 (n / 256 ^ k:Nat))),(3,.v (S (EK k n))),(4,.v (i64 (k:Nat)))],F,[],0⟩) (fun k=>8 - k) 0 (by decide) (VS.eL [0,3,4] rfl ?_) ?_
 ·rw[Nat.pow_zero,Nat.div_one];rfl
 intro k hk;(refine run ?_;repeat intro b);refine eE _ rfl (fun h=>?_) (fun h=>?_)
 ·have hlt:k<8:=by simp at h;omega
  (refine run ?_;repeat intro b);have e1:IntKind.u8.wrap (((n / 256 ^ k:Nat):Int).tmod 256)=(((UInt8.ofNat (n / 256 ^ k % 256)).toNat:Nat):Int):=by
   have e:((n / 256 ^ k:Nat):Int).tmod 256=((n / 256 ^ k % 256:Nat):Int):=tH (n / 256 ^ k) 256;rw[e,Ox,dC];omega
  rw[e1];refine qx [UInt8.ofNat (n / 256 ^ k % 256)] rfl rfl rfl rfl (ah 1) rfl ?_;(refine run ?_;repeat intro b);refine dL rfl rfl rfl (by simp only[ga,oH,aH,cK];unfold jj;omega) ?_;(refine run ?_;repeat intro b);have hlt2:n / 256 ^ k<18446744073709551616:=Nat.lt_of_le_of_lt (Nat.div_le_self _ _) hn;have e2:IntKind.u64.wrap (((n / 256 ^ k:Nat):Int).tdiv 256)=((n / 256 ^ (k+1):Nat):Int):=by
   have e:IntKind.u64.wrap (((n / 256 ^ k:Nat):Int).tdiv 256)=((n / 256 ^ k / 256:Nat):Int):=IA (n / 256 ^ k) 256 hlt2;rw[e,Nat.div_div_eq_div_mul,Nat.pow_succ]
  rw[dT (by omega),e2];exact iK (k+1) [0] [0,3,4] hlt (by omega) rfl rfl rfl rfl trivial rfl
 have hge:k=8:=by simp at h;omega
 subst hge;(refine run ?_;repeat intro b);rfl
end
section
open Go.TR
attribute [local irreducible] vc dW gz fg fD gF gJ gB fJ Plain eD eX dK VS fv fA fG jt fh IntKind.wrap
set_option maxRecDepth 100000
theorem M3 (a b:Nat)(ha:a<18446744073709551616)(hb:b<18446744073709551616)(F:Hp):Plain Tryz.prog F 118 [u64 a,u64 b] (u64 (a * b % MM:Nat)):=by
 refine dQ (N:=16) (rv:=[.tmp 4]) eW mixed Tryz.func118 rfl rfl rfl rfl rfl ?_;(refine run ?_;repeat intro b);refine dJ _ rfl rfl rfl Qa rfl (E8 a b ha hb F) ?_;(refine run ?_;repeat intro b);refine dJ _ rfl rfl rfl U4 rfl (L1 (a * b / 18446744073709551616) (a * b % 18446744073709551616) (du _ (by decide)) F) ?_;(refine run ?_;repeat intro b);have e:x4 (a * b / 18446744073709551616) (a * b % 18446744073709551616)=a * b % MM:=by
  unfold x4 MM;rw[Nat.div_add_mod']
 rw[e];rfl
theorem FQ (l:List UInt8)(k:Nat)(h:k<l.length):(bl (jE l)).getD ((k:Nat):Int).toNat 0=l[k]:=by
 rw[ga,ae,aE,ao h];rfl
theorem Pv (m:Nat)(c:UInt8)(hm:m<MM):(IntKind.u64.wrap (IntKind.u64.wrap (((m * GQ % MM:Nat):Int)+IntKind.u64.wrap ((c.toNat:Nat):Int))+1)).tmod 2305843009213693951=((Lb m c:Nat):Int):=by
 have h1:m * GQ % MM<MM:=du _ (by decide);have h2:c.toNat<256:=c.toNat_lt;unfold Lb;generalize m * GQ % MM=x at *;simp only[nq];unfold MM at *;have e:(((x:Int)+((c.toNat:Nat):Int) % 18446744073709551616) % 18446744073709551616+1) % 18446744073709551616=((x+c.toNat+1:Nat):Int):=by omega
 rw[e];exact tH _ 2305843009213693951
theorem ly (l:List UInt8)(hl:l.length≤4611686018427387904)(F:Hp):Plain Tryz.prog F 62 [S l] (u64 (gj l:Nat)):=by
 refine dQ (N:=21) (rv:=[.tmp 2]) eW mixed Tryz.func62 rfl rfl rfl rfl rfl ?_;(refine run ?_;repeat intro b);refine eY (fun k:Nat=>k≤l.length) (fun k=>⟨[(0,.v (S l)),(3,.v (u64 ((l.take k).foldl Lb 1:Nat))),(6,.v (i64 (l.length:Nat))),(7,.v (i64 (k:Nat)))],F,[],0⟩) (fun k=>l.length - k) 0 (az _) (VS.eL [0,3,6,7] rfl rfl) ?_;intro k hk;(refine run ?_;repeat intro b);refine eE _ rfl (fun h=>?_) (fun h=>?_)
 ·have hlt:k<l.length:=by simp at h;omega
  (refine run ?_;repeat intro b);refine fO (by kernel_rfl) ?_;(refine run ?_;repeat intro b);refine dJ (u64 ((l.take k).foldl Lb 1 * GQ % MM:Nat)) rfl rfl rfl UX rfl (M3 _ GQ (Nat.lt_trans (tO (l.take k) 1 (by decide)) (by decide)) (by decide) F) ?_;(refine run ?_;repeat intro b);refine dL rfl rfl rfl ⟨by omega,by rw[ga];omega⟩ ?_;rw[FQ l k hlt];(refine run ?_;repeat intro b);rw[dT (by omega),Pv _ _ (tO (l.take k) 1 (by decide))];refine fp (k+1) hlt (by omega) (VS.eL [0,3,6,7] rfl ?_);rw[al hlt,List.foldl_append,List.foldl_cons,List.foldl_nil]
 have hge:k=l.length:=by simp at h;omega
 (refine run ?_;repeat intro b);subst hge;rw[aD];rfl
theorem Nm (a b:Nat)(ha:a<18446744073709551616)(hb:b<18446744073709551616)(F:Hp):Plain Tryz.prog F 124 [u64 a,u64 b] (u64 (a * b % MM:Nat)):=by
 refine dQ (N:=26) (rv:=[.tmp 4]) eW mixed Tryz.func124 rfl rfl rfl rfl rfl ?_;(refine run ?_;repeat intro b);have e0:(a:Int).tmod 2305843009213693951=((a % MM:Nat):Int):=tH a 2305843009213693951;rw[e0];(refine run ?_;repeat intro b);refine dJ _ rfl rfl rfl Qv rfl (FR b hb F) ?_;(refine run ?_;repeat intro b);obtain⟨hlt,hle⟩:=Oa b hb;generalize Bw b=n at *;refine eY (fun q:Nat×Nat×Nat×Nat=>q.1≤n∧q.2.1<MM∧q.2.2.1<2 ^ (n - q.1)∧q.2.2.2<MM∧(q.2.2.2+q.2.1 * q.2.2.1) % MM=a * b % MM∧q.2.2.1<18446744073709551616)
  (fun q=>⟨[(0,.v (u64 (q.2.1:Nat))),(1,.v (u64 (q.2.2.1:Nat))),(5,.v (u64 (q.2.2.2:Nat))),(9,.v (i64 (n:Nat))),(10,.v (i64 (q.1:Nat)))],F,[],0⟩) (fun q=>n - q.1) (0,a % MM,b,0)
  ⟨az _,du _ (by decide),hlt,show (0:Nat)<MM from by decide,by simp only;rw[aP,Nat.mod_mul_mod],hb⟩ (VS.eL [0,1,5,9,10] rfl rfl) ?_
 rintro⟨k,x,y,o⟩ ⟨hk,hx,hy,ho,hm,Rf⟩;simp only at hk hx hy ho hm Rf;(refine run ?_;repeat intro b);refine eE _ rfl (fun h=>?_) (fun h=>?_)
 ·have hkn:k<n:=by simp at h;omega
  (refine run ?_;repeat intro b);have e1:(y:Int).tmod 2=((y % 2:Nat):Int):=tH y 2;have e2:IntKind.u64.wrap ((y:Int).tdiv 2)=((y / 2:Nat):Int):=IA y 2 Rf;have e3:(IntKind.u64.wrap (2 * (x:Int))).tmod 2305843009213693951=((2 * x % MM:Nat):Int):=by
   rw[Sq,Nat.mod_eq_of_lt (by unfold MM at hx;omega)];exact tH _ 2305843009213693951
  have e4:(IntKind.u64.wrap ((o:Int)+(x:Int))).tmod 2305843009213693951=(((o+x) % MM:Nat):Int):=by
   rw[IZ,Nat.mod_eq_of_lt (by unfold MM at hx ho;omega)];exact tH _ 2305843009213693951
  have hy2:y / 2<2 ^ (n - (k+1)):=by
   have:2 ^ (n - k)=2 * 2 ^ (n - (k+1)):=by rw[show n - k=(n - (k+1))+1 by omega,Nat.pow_succ,Nat.mul_comm]
   omega
  refine eE _ rfl (fun h2=>?_) (fun h2=>?_)
  ·rw[e1]at h2;have hodd:y % 2=1:=by simp at h2;omega
   (refine run ?_;repeat intro b);rw[dT (by omega),e2,e3,e4];refine fp (k+1,2 * x % MM,y / 2,(o+x) % MM) ⟨hkn,du _ (by decide),hy2,du _ (by decide),?_,by simp only;omega⟩ (by simp only;omega) (VS.eL [0,1,5,9,10] rfl rfl);simp only;rw[←hm];have g1:((o+x) % MM+2 * x % MM * (y / 2)) % MM=((o+x)+2 * x * (y / 2)) % MM:=LM (Nat.mod_mod _ _) (OR (Nat.mod_mod _ _) rfl);rw[g1];congr 1;have:y=2 * (y / 2)+1:=by omega
   generalize y / 2=z at *;subst this
   grind
  rw[e1]at h2;have aaa:y % 2=0:=by simp at h2;omega
  (refine run ?_;repeat intro b);rw[dT (by omega),e2,e3];refine fp (k+1,2 * x % MM,y / 2,o) ⟨hkn,du _ (by decide),hy2,ho,?_,by simp only;omega⟩ (by simp only;omega) (VS.eL [0,1,5,9,10] rfl rfl);simp only;rw[←hm];have g1:(o+2 * x % MM * (y / 2)) % MM=(o+2 * x * (y / 2)) % MM:=LM rfl (OR (Nat.mod_mod _ _) rfl);rw[g1];congr 1;have:y=2 * (y / 2):=by omega
  generalize y / 2=z at *;subst this
  grind
 have hge:k=n:=by simp at h;omega
 subst hge;rw[Nat.sub_self]at hy;have hy0:y=0:=by omega
 subst hy0;(refine run ?_;repeat intro b);rw[Nat.mul_zero,di,Nat.mod_eq_of_lt ho]at hm;rw[hm];rfl
end
section
open Go.TR
attribute [local irreducible] vc dW gz fg fD gF gJ gB fJ Plain eD eX dK VS fv fA fG jt fh IntKind.wrap
set_option maxRecDepth 100000
theorem R9 (c:UInt8):IntKind.u64.wrap (IntKind.u64.wrap ((c.toNat:Nat):Int)+1)=((c.toNat+1:Nat):Int):=by
 have h2:c.toNat<256:=c.toNat_lt;simp only[nq];omega
theorem Ib (x y:Nat)(hx:x<MM)(hy:y<MM):(IntKind.u64.wrap ((x:Int)+(y:Int))).tmod 2305843009213693951=(((x+y) % MM:Nat):Int):=by
 rw[IZ,Nat.mod_eq_of_lt (by unfold MM at hx hy;omega)];exact tH _ 2305843009213693951
theorem jX (l:List UInt8)(hl:l.length≤4611686018427387904)(F:Hp):Plain Tryz.prog F 67 [S l] (u64 (gj l:Nat)):=by
 refine dQ (N:=29) (rv:=[.tmp 2]) eW mixed Tryz.func67 rfl rfl rfl rfl rfl ?_;(refine run ?_;repeat intro b);refine eY (fun k:Nat=>k≤l.length) (fun k=>⟨[(0,.v (S l)),(3,.v (u64 ((sp (l.drop k)).1:Nat))),(4,.v (u64 ((sp (l.drop k)).2:Nat))),(5,.v (i64 ((k:Int) - 1)))],F,[],0⟩) (fun k=>k) l.length (ah _) (VS.eL [0,3,4,5] rfl ?_) ?_
 ·rw[cg,ga,wrap_i64 (by omega) (by omega)];rfl
 intro k hk;(refine run ?_;repeat intro b);refine eE _ rfl (fun h=>?_) (fun h=>?_)
 ·have hpos:1≤k:=by simp at h;omega
  obtain⟨j,rfl⟩: ∃j,k=j+1:=⟨k - 1,by omega⟩;have hlt:j<l.length:=by omega
  have hidx:(((j+1:Nat):Int) - 1)=(j:Int):=by omega
  obtain⟨h1,h2⟩:=Qk (l.drop (j+1));have hd:l.drop j=l[j]::l.drop (j+1):=aO hlt;(refine run ?_;repeat intro b);rw[hidx];refine dL rfl rfl rfl ⟨by omega,by rw[ga];omega⟩ ?_;rw[FQ l j hlt];(refine run ?_;repeat intro b);rw[R9];have hc:l[j].toNat<256:=l[j].toNat_lt;refine dJ _ rfl rfl rfl Qb rfl (Nm _ _ (Nat.lt_trans h2 (by decide)) (by omega) F) ?_;(refine run ?_;repeat intro b);refine dJ (u64 ((sp (l.drop (j+1))).2 * GQ % MM:Nat)) rfl rfl rfl Qb rfl (Nm _ GQ (Nat.lt_trans h2 (by decide)) (by decide) F) ?_;(refine run ?_;repeat intro b);rw[wrap_i64 (n:=(j:Int) - 1) (by omega) (by omega),Ib _ _ h1 (du _ (by decide))];refine fp j (by omega) (by omega) (VS.eL [0,3,4,5] rfl ?_);rw[hd];simp only[sp]
 have hz:k=0:=by simp at h;omega
 subst hz;(refine run ?_;repeat intro b);obtain⟨h1,h2⟩:=Qk l;rw[cj,Ib _ _ h1 h2,Mn];rfl
def II (a b:Nat)(n:Int):Bool:=decide (MM≤a)||decide (MM≤b)||decide (n<0)||decide (600<n)
def Z3 (a b:Nat)(n:Int):Nat:=if II a b n=true then 0 else (a * R2 n.toNat % MM+b+MM - R2 n.toNat) % MM
def ZA (a b:Nat)(n:Int):Int:=if II a b n=true then 4 else 0
theorem Mb (a:Nat):decide ((2305843009213693951:Int)≤(a:Int))=decide (MM≤a):=by
 unfold MM;congr 1;exact propext ⟨fun h=>by omega,fun h=>by omega⟩
end
section
open Go.TR
attribute [local irreducible] vc dW gz fg fD gF gJ gB fJ Plain eD eX dK VS fv fA fG jt fh IntKind.wrap
set_option maxRecDepth 100000
theorem IW (kind a b:Nat)(hk:kind<256)(ha:a<18446744073709551616)(hb:b<18446744073709551616)(F:Hp):Plain Tryz.prog F 266 [u8 kind,u64 a,u64 b] (S (two kind a b)):=by
 have hkind:((kind:Nat):Int)=(((UInt8.ofNat kind).toNat:Nat):Int):=by rw[dC];omega
 rw[hkind];refine dQ (N:=16) (rv:=[.tmp 6]) eW mixed Tryz.func266 rfl rfl rfl rfl rfl ?_;(refine run ?_;repeat intro b);refine fC [] (by kernel_rfl) ?_;refine dU [0,3,6,4,7] (f':=5) (by kernel_rfl) rfl rfl rfl ?_;(refine run ?_;repeat intro b);refine dJ _ rfl rfl rfl uo rfl (kC a  F) ?_;(refine run ?_;repeat intro b);refine dJ _ rfl rfl rfl uo rfl (kC b  F) ?_;(refine run ?_;repeat intro b);refine ee 1 (by kernel_rfl) rfl rfl ?_;(refine run ?_;repeat intro b);refine eG (Hp.sub.refl _) trivial ?_;refine ee 2 (by kernel_rfl) rfl rfl ?_;refine qx [UInt8.ofNat kind] rfl rfl rfl rfl (ah 1) rfl ?_;(refine run ?_;repeat intro b);refine eG (Hp.sub.refl _) trivial ?_;refine dU [5,8,9] (f':=0) (by kernel_rfl) rfl rfl rfl ?_;refine dL rfl rfl rfl (by simp only[ga,gl,aH,cK];unfold jj;omega) ?_;(refine run ?_;repeat intro b);refine dL rfl rfl rfl (by simp only[ga,gl,aH,cK,ag];unfold jj;omega) ?_;(refine run ?_;repeat intro b);refine fq (by kernel_rfl) ?_;(refine run ?_;repeat intro b);simp only[gH,ga,two,bZ,c7,bU]
theorem Kn (kind a b:Nat)(hk:kind<256)(ha:a<18446744073709551616)(hb:b<18446744073709551616)(F:Hp):Plain Tryz.prog F 246 [u8 kind,u64 a,u64 b] (S (two kind a b)):=by
 have hkind:((kind:Nat):Int)=(((UInt8.ofNat kind).toNat:Nat):Int):=by rw[dC];omega
 rw[hkind];refine dQ (N:=16) (rv:=[.tmp 6]) eW mixed Tryz.func246 rfl rfl rfl rfl rfl ?_;(refine run ?_;repeat intro b);refine fC [] (by kernel_rfl) ?_;refine dU [0,3,6,4,7] (f':=5) (by kernel_rfl) rfl rfl rfl ?_;(refine run ?_;repeat intro b);refine dJ _ rfl rfl rfl uY rfl (lE a ha F) ?_;(refine run ?_;repeat intro b);refine dJ _ rfl rfl rfl uY rfl (lE b hb F) ?_;(refine run ?_;repeat intro b);refine ee 1 (by kernel_rfl) rfl rfl ?_;(refine run ?_;repeat intro b);refine eG (Hp.sub.refl _) trivial ?_;refine ee 2 (by kernel_rfl) rfl rfl ?_;refine qx [UInt8.ofNat kind] rfl rfl rfl rfl (ah 1) rfl ?_;(refine run ?_;repeat intro b);refine eG (Hp.sub.refl _) trivial ?_;refine dU [5,8,9] (f':=0) (by kernel_rfl) rfl rfl rfl ?_;refine dL rfl rfl rfl (by simp only[ga,gl,aH,cK];unfold jj;omega) ?_;(refine run ?_;repeat intro b);refine dL rfl rfl rfl (by simp only[ga,gl,aH,cK,ag];unfold jj;omega) ?_;(refine run ?_;repeat intro b);refine fq (by kernel_rfl) ?_;(refine run ?_;repeat intro b);simp only[gH,ga,two,bZ,c7,bU]
theorem xP (kind a b:Nat):(two kind a b).length=17:=by
 unfold two;simp only[aH,ag,gl]
theorem HL (kind a b:Nat)(hk:kind<256)(ha:a<18446744073709551616)(hb:b<18446744073709551616)(F:Hp):Plain Tryz.prog F 216 [u8 kind,u64 a,u64 b] (u64 (gj (two kind a b):Nat)):=by
 refine dQ (N:=12) (rv:=[.tmp 6]) eW mixed Tryz.func216 rfl rfl rfl rfl rfl ?_;(refine run ?_;repeat intro b);refine dJ _ rfl rfl rfl QY rfl (IW kind a b hk ha hb F) ?_;(refine run ?_;repeat intro b);refine dJ _ rfl rfl rfl Cu rfl (ly (two kind a b) (by rw[xP];decide) F) ?_;(refine run ?_;repeat intro b);rfl
end
section
open Go.TR
structure Head where
 dZ:Int
 root:Nat
 prev:Nat
 at_:Int
deriving DecidableEq
@[reducible] def Head.v (h:Head):Value:=.agg #[i64 h.dZ,u64 (h.root:Nat),u64 (h.prev:Nat),i64 h.at_]
def Head.none:Head:=⟨0,0,0,0⟩
structure Head.wf (h:Head):Prop where
 root:h.root<18446744073709551616
 prev:h.prev<18446744073709551616
 dZ: -9223372036854775808≤h.dZ∧h.dZ≤9223372036854775807
 at_: -9223372036854775808≤h.at_∧h.at_≤9223372036854775807
def Head.vr (h:Head):Bool:=decide (h.dZ<0)||decide (1000000<h.dZ)||decide (MM≤h.root)||decide (MM≤h.prev)||decide (h.at_<0)||decide (1000000000<h.at_)
def Head.yb (h:Head):Bool:=(h.dZ==0)&& !((h.prev:Int)==0)
def Head.fault (h:Head):Int:=if h.vr=true then 4 else if h.yb=true then 3 else 0
def SY (n:Int):Nat:=(n % 18446744073709551616).toNat
theorem xp (n:Int):IntKind.u64.wrap n=((SY n:Nat):Int):=by unfold SY;rw [nq];omega
theorem LF (n:Int):SY n<18446744073709551616:=by unfold SY;omega
def Head.said (h:Head):List UInt8:=3::(num (SY h.dZ)++num h.root++num h.prev++num (SY h.at_))
theorem wV (h:Head):h.said.length=33:=by
 unfold Head.said;simp only[aH,ag,gl]
def Head.mark (h:Head):Nat:=gj h.said
theorem Head.uK {h:Head}(e:h.fault=0):0≤h.dZ∧h.dZ≤1000000∧h.root<MM∧h.prev<MM∧0≤h.at_∧h.at_≤1000000000∧(h.dZ=0→h.prev=0):=by
 unfold Head.fault at e;by_cases h1:h.vr=true
 ·rw[aZ h1]at e;cases e
 rw[aY h1]at e;by_cases h2:h.yb=true
 ·rw[aZ h2]at e;cases e
 unfold Head.vr at h1;unfold Head.yb at h2;simp at h1 h2;refine⟨by omega,by omega,by omega,by omega,by omega,by omega,fun h0=>?_⟩;have:=h2 h0;omega
def be (l:List UInt8):Nat:=l.foldl (fun n c=>256 * n+c.toNat) 0
def wj (s:List UInt8)(i:Nat):Nat:=be ((s.take (9+8 * i)).drop (1+8 * i))
def ZU (n:Nat):Int:=IntKind.i64.wrap (n:Int)
def Np (s:List UInt8):Head:=⟨ZU (wj s 0),wj s 1,wj s 2,ZU (wj s 3)⟩
end
section
open Go.TR
def Zp (l:List UInt8):Nat:=if l.length=8 then be l else 0
attribute [local irreducible] vc dW gz fg fD gF gJ gB fJ Plain eD eX dK VS fv fA fG jt fh IntKind.wrap
set_option maxRecDepth 100000
end
section
open Go.TR
attribute [local irreducible] vc dW gz fg fD gF gJ gB fJ Plain eD eX dK VS fv fA fG jt fh IntKind.wrap
set_option maxRecDepth 100000
theorem Ey (h:Head):(decide (h.dZ<0)||decide (1000000<h.dZ)||decide ((2305843009213693951:Int)≤(h.root:Int))||decide ((2305843009213693951:Int)≤(h.prev:Int))||decide (h.at_<0)||decide (1000000000<h.at_))=h.vr:=by
 unfold Head.vr;rw[Mb,Mb]
theorem oJ (h:Head)(F:Hp):Plain Tryz.prog F 185 [h.v] (i64 h.fault):=by
 refine dQ (N:=39) (rv:=[.tmp 2]) eW mixed Tryz.func185 rfl rfl rfl rfl rfl ?_;(refine run ?_;repeat intro b);refine eE h.vr ?_ (fun h1=>?_) (fun h1=>?_)
 ·simp only[←Ey,←fx];rfl
 ·(refine run ?_;repeat intro b);simp only[gH,Head.fault,h1,dF]
 (refine run ?_;repeat intro b);refine eE h.yb ?_ (fun h2=>?_) (fun h2=>?_)
 ·unfold Head.yb;rw[←fK];rfl
 ·(refine run ?_;repeat intro b);simp only[gH,Head.fault,h1,h2,dF];rfl
 (refine run ?_;repeat intro b);simp only[gH,Head.fault,h1,h2];rfl
theorem kA (h:Head)(F:Hp):Plain Tryz.prog F 49 [h.v] (i64 h.fault):=by
 refine dQ (N:=41) (rv:=[.tmp 2]) eW mixed Tryz.func49 rfl rfl rfl rfl rfl ?_;(refine run ?_;repeat intro b);refine eE h.vr ?_ (fun h1=>?_) (fun h1=>?_)
 ·simp only[←Ey,←fx];rfl
 ·(refine run ?_;repeat intro b);simp only[gH,Head.fault,h1,dF]
 (refine run ?_;repeat intro b);refine eE h.yb ?_ (fun h2=>?_) (fun h2=>?_)
 ·unfold Head.yb;rw[←fK];rfl
 ·(refine run ?_;repeat intro b);simp only[gH,Head.fault,h1,h2,dF];rfl
 (refine run ?_;repeat intro b);simp only[gH,Head.fault,h1,h2];rfl
theorem yS (h:Head)(hw:h.wf)(F:Hp):Plain Tryz.prog F 146 [h.v] (S h.said):=by
 refine dQ (N:=21) (rv:=[.tmp 2]) eW mixed Tryz.func146 rfl rfl rfl rfl rfl ?_;(refine run ?_;repeat intro b);refine fO (by kernel_rfl) ?_;(refine run ?_;repeat intro b);rw[xp];refine dJ _ rfl rfl rfl uY rfl (lE _ (LF _) F) ?_;(refine run ?_;repeat intro b);refine dL rfl rfl rfl (by simp only[ga,gl,aH,cK];unfold jj;decide) ?_;(refine run ?_;repeat intro b);refine dJ _ rfl rfl rfl uY rfl (lE _ hw.root F) ?_;(refine run ?_;repeat intro b);refine dL rfl rfl rfl (by simp only[ga,gl,aH,cK,ag];unfold jj;decide) ?_;(refine run ?_;repeat intro b);refine dJ _ rfl rfl rfl uY rfl (lE _ hw.prev F) ?_;(refine run ?_;repeat intro b);refine dL rfl rfl rfl (by simp only[ga,gl,aH,cK,ag];unfold jj;decide) ?_;(refine run ?_;repeat intro b);rw[xp h.at_];refine dJ _ rfl rfl rfl uY rfl (lE _ (LF _) F) ?_;(refine run ?_;repeat intro b);refine dL rfl rfl rfl (by simp only[ga,gl,aH,cK,ag];unfold jj;decide) ?_;(refine run ?_;repeat intro b);simp only[gH,ga,Head.said,bZ,c7,bU];rfl
theorem rL (h:Head)(hw:h.wf)(F:Hp):Plain Tryz.prog F 87 [h.v] (u64 (h.mark:Nat)):=by
 refine dQ (N:=6) (rv:=[.tmp 2]) eW mixed Tryz.func87 rfl rfl rfl rfl rfl ?_;(refine run ?_;repeat intro b);refine dJ (S h.said) rfl rfl rfl V9 rfl (yS h hw F) ?_;(refine run ?_;repeat intro b);refine dJ _ rfl rfl rfl vW rfl (jX h.said (by rw[wV];decide) F) ?_;(refine run ?_;repeat intro b);rfl
def Head.nj (h:Head):List UInt8:=if h.fault=0 then h.said else []
def Head.rp (h:Head):Nat:=if h.fault=0 then h.mark else 0
theorem Fq (h:Head)(hw:h.wf)(F:Hp):Plain Tryz.prog F 61 [h.v] (pair (S h.nj) (i64 h.fault)):=by
 refine dQ (N:=30) (rv:=[.tmp 2,.tmp 3]) eW mixed Tryz.func61 rfl rfl rfl rfl rfl ?_;(refine run ?_;repeat intro b);refine dJ (i64 h.fault) rfl rfl rfl HI rfl (kA h F) ?_;(refine run ?_;repeat intro b);refine eE _ rfl (fun h1=>?_) (fun h1=>?_)
 ·have h2: ¬h.fault=0:=by simpa using h1
  (refine run ?_;repeat intro b);simp only[gH,Head.nj,aY h2];rfl
 have h2:h.fault=0:=by simpa using h1
 (refine run ?_;repeat intro b);refine fC [0] (by kernel_rfl) ?_;refine dU [2,3,4,5,7,8,9,11,12,13,15,16,17,18] (f':=8) (by kernel_rfl) rfl rfl rfl ?_;(refine run ?_;repeat intro b);rw[xp];refine dJ _ rfl rfl rfl uo rfl (kC _ F) ?_;(refine run ?_;repeat intro b);refine dJ _ rfl rfl rfl uo rfl (kC _ F) ?_;(refine run ?_;repeat intro b);refine dJ _ rfl rfl rfl uo rfl (kC _ F) ?_;(refine run ?_;repeat intro b);rw[xp h.at_];refine dJ _ rfl rfl rfl uo rfl (kC _ F) ?_;(refine run ?_;repeat intro b);refine ee 0 (by kernel_rfl) rfl rfl ?_;(refine run ?_;repeat intro b);refine eG (Hp.sub.refl _) ⟨⟨rfl,⟨rfl,rfl,rfl,rfl,trivial⟩⟩,trivial⟩ ?_;refine ee 1 (by kernel_rfl) rfl rfl ?_;refine qx [3] rfl rfl rfl rfl (ah 1) rfl ?_;(refine run ?_;repeat intro b);refine eG (Hp.sub.refl _) ⟨⟨rfl,⟨rfl,rfl,rfl,rfl,trivial⟩⟩,trivial⟩ ?_;refine dU [6,10,14,19,20,21] (f':=0) (by kernel_rfl) rfl rfl rfl ?_;refine dL rfl rfl rfl (by simp only[ga,gl,aH,cK];unfold jj;decide) ?_;(refine run ?_;repeat intro b);refine dL rfl rfl rfl (by simp only[ga,gl,aH,cK,ag];unfold jj;decide) ?_;(refine run ?_;repeat intro b);refine dL rfl rfl rfl (by simp only[ga,gl,aH,cK,ag];unfold jj;decide) ?_;(refine run ?_;repeat intro b);refine dL rfl rfl rfl (by simp only[ga,gl,aH,cK,ag];unfold jj;decide) ?_;(refine run ?_;repeat intro b);refine fq (by kernel_rfl) ?_;(refine run ?_;repeat intro b);simp only[gH,Head.nj,h2,dF,ga,Head.said,bZ,c7,bU]
theorem Eg (h:Head)(hw:h.wf)(F:Hp):Plain Tryz.prog F 59 [h.v] (pair (u64 (h.rp:Nat)) (i64 h.fault)):=by
 refine dQ (N:=16) (rv:=[.tmp 2,.tmp 3]) eW mixed Tryz.func59 rfl rfl rfl rfl rfl ?_;(refine run ?_;repeat intro b);refine dJ (pair (S h.nj) (i64 h.fault)) rfl rfl rfl XZ rfl (Fq h hw F) ?_;(refine run ?_;repeat intro b);refine eE _ rfl (fun h1=>?_) (fun h1=>?_)
 ·have h2: ¬h.fault=0:=by simpa using h1
  (refine run ?_;repeat intro b);simp only[gH,Head.rp,aY h2];rfl
 have h2:h.fault=0:=by simpa using h1
 have h3:h.nj=h.said:=by unfold Head.nj;rw[aZ h2]
 (refine run ?_;repeat intro b);rw[h3];refine dJ _ rfl rfl rfl Cu rfl (ly h.said (by rw[wV];decide) F) ?_;(refine run ?_;repeat intro b);simp only[gH,Head.rp,aZ h2,h2];rfl
def Head.ij (h:Head)(e:Int):Head:=if e=0 then h else Head.none
theorem Cm (root:Nat)(at_:Int)(F:Hp):Plain Tryz.prog F 35 [u64 root,i64 at_] (pair ((⟨0,root,0,at_⟩:Head).ij (⟨0,root,0,at_⟩:Head).fault).v (i64 (⟨0,root,0,at_⟩:Head).fault)):=by
 refine dQ (N:=18) (rv:=[.cell 4 41,.tmp 5]) eW mixed Tryz.func35 rfl rfl rfl rfl rfl ?_;(refine run ?_;repeat intro b);refine dJ (i64 (⟨0,root,0,at_⟩:Head).fault) rfl rfl rfl HI rfl (kA ⟨0,root,0,at_⟩ F) ?_;(refine run ?_;repeat intro b);refine eE _ rfl (fun h1=>?_) (fun h1=>?_)
 ·have h2: ¬(⟨0,root,0,at_⟩:Head).fault=0:=by simpa using h1
  (refine run ?_;repeat intro b);simp only[gH,Head.ij,aY h2];rfl
 have h2:(⟨0,root,0,at_⟩:Head).fault=0:=by simpa using h1
 (refine run ?_;repeat intro b);simp only[gH,Head.ij,aZ h2,h2];rfl
def Head.m9 (h:Head)(root:Nat)(at_:Int):Head:=⟨IntKind.i64.wrap (h.dZ+1),root,h.rp,at_⟩
def Head.kz (h:Head)(root:Nat)(at_:Int):Int:=if h.fault≠0 then h.fault else if h.dZ=1000000 then 7 else if at_<h.at_ then 4 else (h.m9 root at_).fault
set_option maxHeartbeats 2000000 in
theorem v5 (h:Head)(hw:h.wf)(root:Nat)(at_:Int)(F:Hp):Plain Tryz.prog F 98 [h.v,u64 root,i64 at_] (pair ((h.m9 root at_).ij (h.kz root at_)).v (i64 (h.kz root at_))):=by
 refine dQ (N:=46) (rv:=[.cell 6 41,.tmp 7]) eW mixed Tryz.func98 rfl rfl rfl rfl rfl ?_;(refine run ?_;repeat intro b);refine dJ (pair (u64 (h.rp:Nat)) (i64 h.fault)) rfl rfl rfl Xe rfl (Eg h hw F) ?_;(refine run ?_;repeat intro b);refine eE _ rfl (fun h1=>?_) (fun h1=>?_)
 ·have h2:h.fault≠0:=by simpa using h1
  (refine run ?_;repeat intro b);simp only[gH,Head.kz,aZ h2,Head.ij,aY h2];rfl
 have h2: ¬h.fault≠0:=by simpa using h1
 (refine run ?_;repeat intro b);refine eE _ rfl (fun h3=>?_) (fun h3=>?_)
 ·have h4:h.dZ=1000000:=by simpa using h3
  (refine run ?_;repeat intro b);simp only[gH,Head.kz,aY h2,aZ h4,Head.ij];rfl
 have h4: ¬h.dZ=1000000:=by simpa using h3
 (refine run ?_;repeat intro b);refine eE _ rfl (fun h5=>?_) (fun h5=>?_)
 ·have h6:at_<h.at_:=by simpa using h5
  (refine run ?_;repeat intro b);simp only[gH,Head.kz,aY h2,aY h4,aZ h6,Head.ij];rfl
 have h6: ¬at_<h.at_:=by simpa using h5
 (refine run ?_;repeat intro b);refine dJ (i64 (h.m9 root at_).fault) rfl rfl rfl HI rfl (kA (h.m9 root at_) F) ?_;(refine run ?_;repeat intro b);refine eE _ rfl (fun h7=>?_) (fun h7=>?_)
 ·have h8: ¬(h.m9 root at_).fault=0:=by simpa using h7
  (refine run ?_;repeat intro b);simp only[gH,Head.kz,aY h2,aY h4,aY h6,Head.ij,aY h8];rfl
 have h8:(h.m9 root at_).fault=0:=by simpa using h7
 (refine run ?_;repeat intro b);simp only[gH,Head.kz,aY h2,aY h4,aY h6,Head.ij,aZ h8,h8];rfl
end
end Go.Proofs.YthbnddgjkonkdaaGreatDoor
