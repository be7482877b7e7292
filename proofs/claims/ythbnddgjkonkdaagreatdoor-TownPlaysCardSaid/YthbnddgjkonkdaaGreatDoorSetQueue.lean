/- A part of the proof. -/
import Derived.Test.YthbnddgjkonkdaaGreatDoorTb
import Derived.Shelf.Abstract
import Derived.Below
import Derived.Lib.OthersKept
import Derived.Lib.TrimU
import Derived.Laws.RangeString
import Derived.Laws.RangeAny
set_option linter.unusedVariables false
set_option linter.unusedSimpArgs false
namespace Go.Proofs.YthbnddgjkonkdaaGreatDoor
section
open Go.TR
@[reducible] def i64 (n:Int):Value:=.int .i64 n
@[reducible] def u64 (n:Int):Value:=.int .u64 n
@[reducible] def u8 (n:Int):Value:=.int .u8 n
@[reducible] def pair (a b:Value):Value:=.tuple #[a,b]
@[reducible] def triple (a b c:Value):Value:=.tuple #[a,b,c]
@[simp] theorem ga (l:List UInt8):bl (jE l)=l:=rfl
theorem fx (b x:Bool):lS b true x=(b||x):=by cases b<;>rfl
theorem fK (b x:Bool):lS b x false=(b&&x):=by cases b<;>rfl
theorem wrap_i64 {n:Int}(h1: -9223372036854775808≤n)(h2:n≤9223372036854775807):IntKind.i64.wrap n=n:=IntWalk.i64_in n ⟨h1,h2⟩
theorem dT {k:Nat}(h:k<9223372036854775807):IntKind.i64.wrap ((k:Int)+1)=((k+1:Nat):Int):=by
 rw[wrap_i64 (by omega) (by omega)];omega
theorem dR {F:Hp}{p:Option Addr}{cs:List Value}(h:e9 F p cs){j:Nat}(hj:j<cs.length):p.isSome=true:=by
 have:=h j _ (ao hj);cases p with
 | none=>simp[iw,gi]at this
 | some a=>rfl
theorem gS {F:Hp}{p:Option Addr}{cs:List Value}(h:e9 F p cs){j:Nat}(hj:j<cs.length):gi F (iw p j)=some cs[j]:=h j _ (ao hj)
theorem iV {F F':Hp}(h:F.sub F'){p:Option Addr}{v:Value}(e:gi F p=some v):gi F' p=some v:=by
 cases p with
 | none=>simp[gi]at e
 | some a=>exact jz.sub h e
theorem eu {F F':Hp}(h:F.sub F'){p:Option Addr}{cs:List Value}(e:e9 F p cs):e9 F' p cs:=fun j u hj=>iV h (e j u hj)
theorem eJ (F:Hp)(p:Option Addr):e9 F p []:=fun j u hj=>by simp at hj
theorem so (p:Option Addr)(m n:Nat):iw (iw p m) n=iw p (m+n):=by
 cases p with
 | none=>rfl
 | some a=>obtain⟨b,o,s⟩:=a;cases s<;>(simp only[iw,aJ,Addr.add];by_cases h1:m=0<;>by_cases h2:n=0<;>simp[h1,h2,Nat.add_assoc])
theorem Az {F:Hp}{p:Option Addr}{cs:List Value}(h:e9 F p cs)(k:Nat):e9 F (iw p k) (cs.drop k):=fun j u hj=>by
 rw[so];rw[cA]at hj;exact h _ _ hj
theorem r6 {F:Hp}{p:Option Addr}{cs:List Value}(h:e9 F p cs)(k:Nat):e9 F p (cs.take k):=fun j u hj=>by
 rw[cE]at hj;split at hj
 ·exact h _ _ hj
 simp at hj
theorem my {α:Type}{l1 l2:List α}{k:Nat}(h:l1.take k=l2.take k)(h1:k<l1.length)(h2:k<l2.length)(e:l1[k]=l2[k]):l1.take (k+1)=l2.take (k+1):=by
 rw[al h1,al h2,h,e]
theorem pO {α:Type}{l1 l2:List α}{k:Nat}(h1:k<l1.length)(h2:k<l2.length)(e:l1[k]≠l2[k]):l1≠l2:=by
 rintro rfl;exact e rfl
end
section
open Go.TR
theorem dO {α:Type}{f:α→List Value}{k:Nat}(hk: ∀a,(f a).length=k): ∀(l:List α),(l.flatMap f).length=l.length * k
 | []=>by simp
 | a::l=>by rw[cu,ag,hk,dO hk l,aH,dw];omega
theorem EW {α:Type}{f:α→List Value}{k:Nat}(hk: ∀a,(f a).length=k): ∀(l:List α) (j i:Nat) (h:j<l.length),i<k→(l.flatMap f)[j * k+i]? =(f l[j])[i]?
 | [],j,i,h,_=>by simp at h
 | a::l,0,i,h,hi=>by
  rw[cu,dy,aP,List.getElem?_append_left (by rw[hk];exact hi)];rfl
 | a::l,j+1,i,h,hi=>by
  rw[cu,List.getElem?_append_right (by rw[hk,dw];omega),hk];have:=EW hk l j i (by simpa using h) hi;rw[show (j+1) * k+i - k=j * k+i by rw[dw];omega,this];rfl
theorem pt {α:Type}{f:α→List Value}{k:Nat}(hk: ∀a,(f a).length=k): ∀(l:List α) (n:Nat),(l.take n).flatMap f=(l.flatMap f).take (n * k)
 | [],n=>by simp
 | a::l,0=>by simp
 | a::l,n+1=>by
  rw[List.take_succ_cons,cu,cu,pt hk l n,List.take_append,hk,an (l:=f a) (by rw[hk,dw];omega)];congr 2;rw[dw];omega
theorem vg {α:Type}{f:α→List Value}{k:Nat}(hk: ∀a,(f a).length=k): ∀(l:List α) (n:Nat),(l.drop n).flatMap f=(l.flatMap f).drop (n * k)
 | [],n=>by simp
 | a::l,0=>by simp
 | a::l,n+1=>by
  rw[List.drop_succ_cons,cu,vg hk l n,List.drop_append,hk,cd («as» :=f a) (by rw[hk,dw];omega),c7];congr 1;rw[dw];omega
theorem fa {α:Type}{f:α→List Value}{k:Nat}(hk: ∀a,(f a).length=k)(hk0:0<k){F:Hp}{p:Option Addr}{l:List α}(h:e9 F p (l.flatMap f))(j:Nat)(hj:j<l.length):
  (iw p (j * k)).isSome=true∧ ∀i,i<k→gi F (iw (iw p (j * k)) i)=(f l[j])[i]? :=by
 have hl:=dO hk l;have hm:(j+1) * k≤l.length * k:=dv _ hj;rw[dw]at hm;refine⟨?_,fun i hi=>?_⟩
 ·have:=dR h (j:=j * k) (by omega);cases p with
  | none=>cases this
  | some a=>rfl
 have e:=EW hk l j i hj hi;have hi':i<(f l[j]).length:=by rw[hk];exact hi
 rw[ao hi']at e ⊢;rw[so];exact h _ _ e
theorem nN {α:Type}{f:α→List Value}{k:Nat}(hk: ∀a,(f a).length=k){F:Hp}{p:Option Addr}{l:List α}(h:e9 F p (l.flatMap f))(n:Nat):e9 F p ((l.take n).flatMap f):=by
 rw[pt hk];exact r6 h _
theorem mL {α:Type}{f:α→List Value}{k:Nat}(hk: ∀a,(f a).length=k){F:Hp}{p:Option Addr}{l:List α}(h:e9 F p (l.flatMap f))(n c:Nat)(hn:n≤l.length)(hc:l.length≤c):e9 F (jJ p n c k) ((l.drop n).flatMap f):=by
 unfold jJ;split
 ·rename_i h1;rw[cd (by omega)];exact eJ _ _
 rw[vg hk];exact Az h _
end
section
open Go.RowKit Go.Lib
open Go.TR (Hp Plain dK S jE bl ic)
def kS (iC:UInt8→Bool)(s:List UInt8)(pos:Nat):Int:=if (s.drop pos).all iC=true then -1 else ((pos+(s.drop pos).findIdx (fun b=> !iC b):Nat):Int)
theorem D8 {iC:UInt8→Bool}{s:List UInt8}{pos:Nat}(h: ¬pos<s.length):kS iC s pos= -1:=by
 unfold kS;rw[List.drop_eq_nil_of_le (by omega)];rfl
theorem Ct {iC:UInt8→Bool}{s:List UInt8}{pos:Nat}(h:pos<s.length)(hg:iC s[pos]=true):kS iC s pos=kS iC s (pos+1):=by
 unfold kS;rw[List.drop_eq_getElem_cons h];simp only[List.all_cons,hg,Bool.true_and,List.findIdx_cons,Bool.not_true,cond_false];split
 ·rfl
 congr 1;omega
theorem Ex {iC:UInt8→Bool}{s:List UInt8}{pos:Nat}(h:pos<s.length)(hg:iC s[pos]=false):kS iC s pos=(pos:Int):=by
 unfold kS;rw[List.drop_eq_getElem_cons h];simp only[List.all_cons,hg,Bool.false_and,Bool.false_eq_true,if_false,List.findIdx_cons,Bool.not_false,cond_true,Nat.add_zero]
theorem EJ (iC:UInt8→Bool)(s:List UInt8):decide (0≤kS iC s 0)= !s.all iC:=by
 unfold kS;rw[List.drop_zero];cases s.all iC with
 | true=>simp
 | false=>
  simp only[Bool.false_eq_true,if_false,Bool.not_false,decide_eq_true_eq];omega
theorem xh {P:Program}{g:Nat}(hb:dK P g)(args:Array Value)(w:World):(callFunc g args).run P w= .ok (.enter g args) w:=by
 obtain⟨fn,h1,h2,h3⟩:=hb;have hp:(program:Sem Program).run P w= .ok P w:=rfl;simp only[callFunc,Go.TR.run_bind,hp,h1,h3,h2,Bool.false_eq_true,if_false,Go.TR.run_pure]
set_option maxHeartbeats 2000000 in
set_option maxRecDepth 1000000 in
theorem xa (g:Nat)(lb:Array Value)(hb:dK Tryz.prog g)(q:Nat→Bool)(iC:UInt8→Bool)(s:List UInt8)(F:Hp)(hlow: ∀b:UInt8,b.toNat<128→q b.toNat= !iC b)(hhigh: ∀r,128≤r→q r=true)(hgood: ∀b:UInt8,128≤b.toNat→iC b=false)
  (hp: ∀r:Nat,r≤1114111→Plain Tryz.prog F g (.int .i32 (r:Int)::lb.toList) (.bool (q r))) (w:World) (hw:F.le w):
  Calls Tryz.prog 272 #[S s,.func (.func g) #[] lb,.bool true] w fun e w'=>e= .returned (.int .i64 (kS iC s 0))∧Below w.heap.size w w':=by
 have eg:=xh hb;have hlen:(jE s).size=s.length:=rfl
 go_enter Tryz.func272,Tryz.ntmps272
 go_wp2
 go_loopg [] s.length (fun gf wx=>∃pos:Nat,wx.heap[w.heap.size]? =some (.stringIter (jE s) pos)∧Below w.heap.size w wx∧kS iC s pos=kS iC s 0∧s.length≤pos+gf)
 case atStart=>exact⟨0,World.iter_heap w (jE s) 0,(Below.refl _ w).alloc (Nat.le_refl _) _,rfl,by omega⟩
 case round=>
  obtain⟨pos,hit,hbw,hleft,hfu⟩:=hrel;by_cases hps:pos<(jE s).size
  ·obtain⟨g',rfl⟩: ∃g',gk=g'+1:=⟨gk - 1,by omega⟩;have hnx: ∀ty,(Instr.next (.pointer (some ⟨w.heap.size,0,none⟩)) true ty).run Tryz.prog wr=_:=fun ty=>Lib.run_next_any_at wr w.heap.size (jE s) pos ty hit hps;have hwd:=Lib.width_pos (jE s) pos;have hpl:pos<s.length:=hps;have hcase:(iC s[pos]=true∧q (Utf8.decode (jE s) pos).1=false∧(Utf8.decode (jE s) pos).2=1)∨(iC s[pos]=false∧q (Utf8.decode (jE s) pos).1=true):=by
    have hget:(jE s)[pos]'hps=s[pos]:=rfl;by_cases ha:(s[pos]).toNat<128
    ·have hd:=decode_ascii (jE s) pos hps (by rw[hget];exact ha);rw[hget]at hd;rw[hd];cases hgd:iC s[pos] with
     | true=>exact .inl ⟨rfl,by rw[hlow _ ha,hgd];rfl,rfl⟩
     | false=>exact .inr ⟨rfl,by rw[hlow _ ha,hgd];rfl⟩
    have hd:=decode_high (jE s) pos hps (by rw[hget];omega);exact .inr ⟨hgood _ (by omega),hhigh _ hd.1⟩
   have Xa:=Lib.rune_le (jE s) pos;obtain⟨R,hR⟩: ∃R,(Utf8.decode (jE s) pos).1=R:=⟨_,rfl⟩;obtain⟨K,hK⟩: ∃K,(Utf8.decode (jE s) pos).2=K:=⟨_,rfl⟩;rw[hR,hK]at hnx;rw[hR]at Xa;rw[hR,hK]at hcase;rw[hK]at hwd;have hit2:=Lib.iterAt_heap wr w.heap.size (jE s) pos (pos+K) hit;have hbw2:=Lib.below_iterAt hbw (k:=w.heap.size) (Nat.le_refl _) (jE s) (pos+K);obtain⟨W,hWd⟩: ∃W,wr.iterAt w.heap.size (jE s) (pos+K)=W:=⟨_,rfl⟩;rw[hWd]at hnx hit2 hbw2;have hltW:w.heap.size<W.heap.size:=(Array.getElem?_eq_some_iff.1 hit2).1;have cS:Calls Tryz.prog g (#[.int .i32 (R:Int)]++lb) W (fun e w'=>e= .returned (.bool (q R))∧ic [] W w'):=by
    have h1:=hp R Xa W (hw.ir (ic.Fx hbw2) (by simp));have e1:(Value.int .i32 (R:Int)::lb.toList).toArray= #[.int .i32 (R:Int)]++lb:=by apply Array.ext';simp
    rw[e1]at h1;exact h1
   clear hp;rcases hcase with⟨h1,h2,h3⟩ | ⟨h1,h2⟩
   ·rw[h2]at cS
    go_wp2_with (go_at_fn g;refine cS.mono ?_;rintro e W' ⟨rfl,hbc⟩)
    go_roundg g'
    case measure=>omega
    case rel=>
     subst h3;exact⟨pos+1,(hbc.block _ hltW (by simp)).trans hit2,(hbw2.trans (hbc.below.mono hbw2.size)),by rw[←Ct hpl h1];exact hleft,by omega⟩
   rw[h2]at cS
   go_wp2_with (go_at_fn g;refine cS.mono ?_;rintro e W' ⟨rfl,hbc⟩)
   go_ret
   exact⟨by rw[←hleft,Ex hpl h1]<;>rfl,(hbw2.trans (hbc.below.mono hbw2.size))⟩
  have hnx: ∀ty,(Instr.next (.pointer (some ⟨w.heap.size,0,none⟩)) true ty).run Tryz.prog wr=_:=fun ty=>Lib.run_next_end_at wr w.heap.size (jE s) pos ty hit hps;rw[D8 (s:=s) (pos:=pos) hps]at hleft
  go_wp2
  go_ret
  exact⟨by rw[←hleft]<;>rfl,hbw⟩
theorem Cs (g:Nat)(lb:Array Value)(hb:dK Tryz.prog g)(q:Nat→Bool)(iC:UInt8→Bool)(s:List UInt8)(F:Hp)(hlow: ∀b:UInt8,b.toNat<128→q b.toNat= !iC b)(hhigh: ∀r,128≤r→q r=true)(hgood: ∀b:UInt8,128≤b.toNat→iC b=false)
  (hp: ∀r:Nat,r≤1114111→Plain Tryz.prog F g (.int .i32 (r:Int)::lb.toList) (.bool (q r))):Plain Tryz.prog F 272 [S s,.func (.func g) #[] lb,.bool true] (i64 (kS iC s 0)):=
 fun w hw=>(xa g lb hb q iC s F hlow hhigh hgood hp w hw).mono fun e w' h=>⟨h.1,ic.Fx h.2⟩
end
section
open Go.TR
attribute [local irreducible] vc dW gz fg fD gF gJ gB fJ Plain eD eX dK VS fv fA fG jt fh IntKind.wrap
set_option maxRecDepth 100000
theorem xb (g:Nat)(lb:Array Value)(hb:dK Tryz.prog g)(q:Nat→Bool)(iC:UInt8→Bool)(s:List UInt8)(F:Hp)(hlow: ∀b:UInt8,b.toNat<128→q b.toNat= !iC b)(hhigh: ∀r,128≤r→q r=true)(hgood: ∀b:UInt8,128≤b.toNat→iC b=false)
  (hp: ∀r:Nat,r≤1114111→Plain Tryz.prog F g (.int .i32 (r:Int)::lb.toList) (.bool (q r))):Plain Tryz.prog F 158 [S s,.func (.func g) #[] lb] (.bool (!s.all iC)):=by
 have h1:=Cs g lb hb q iC s F hlow hhigh hgood hp;have h2:Plain Tryz.prog F 222 [S s,.func (.func g) #[] lb] (i64 (kS iC s 0)):=by
  refine dQ (N:=8) (rv:=[.tmp 4]) eW mixed Tryz.func222 rfl rfl rfl rfl rfl ?_;(refine run ?_;repeat intro b);refine dJ _ rfl rfl rfl V7 rfl h1 ?_;(refine run ?_;repeat intro b);rfl
 refine dQ (N:=9) (rv:=[.tmp 4]) eW mixed Tryz.func158 rfl rfl rfl rfl rfl ?_;(refine run ?_;repeat intro b);refine dJ _ rfl rfl rfl Vj rfl h2 ?_;(refine run ?_;repeat intro b);rw[EJ];rfl
def sF (b:UInt8):Bool:=(decide (97≤b.toNat)&&decide (b.toNat≤122))||(decide (48≤b.toNat)&&decide (b.toNat≤57))
def E3 (r:Nat):Bool:=(decide (97≤r)&&decide (r≤122))||(decide (48≤r)&&decide (r≤57))
def eP (s:List UInt8):Bool:=decide (1≤s.length)&&decide (s.length≤12)&&s.all sF
theorem LB (r:Nat)(F:Hp):Plain Tryz.prog F 157 [.int .i32 (r:Int)] (.bool (E3 r)):=by
 refine dQ (N:=17) (rv:=[.tmp 2]) eW mixed Tryz.func157 rfl rfl rfl rfl rfl ?_;(refine run ?_;repeat intro b);simp only[gH,fK,fx,E3];have e1:decide ((97:Int)≤(r:Int))=decide (97≤r):=by rw[decide_eq_decide];omega
 have e2:decide ((r:Int)≤122)=decide (r≤122):=by rw[decide_eq_decide];omega
 have e3:decide ((48:Int)≤(r:Int))=decide (48≤r):=by rw[decide_eq_decide];omega
 have e4:decide ((r:Int)≤57)=decide (r≤57):=by rw[decide_eq_decide];omega
 rw[e1,e2,e3,e4]
theorem MO (r:Nat){F:Hp}{p:Option Addr}(hp:gi F p=some (.func (.func 157) #[] #[])):Plain Tryz.prog F 159 [.int .i32 (r:Int),.pointer p] (.bool (!E3 r)):=by
 refine dQ (N:=8) (rv:=[.tmp 3]) eW mixed Tryz.func159 rfl rfl rfl rfl rfl ?_;(refine run ?_;repeat intro b);refine fw (.func (.func 157) #[] #[]) rfl rfl rfl rfl hp ?_;(refine run ?_;repeat intro b);refine dJ _ rfl rfl rfl U2 rfl (LB r F) ?_;(refine run ?_;repeat intro b);rfl
theorem oF (s:List UInt8)(hs:s.length≤4611686018427387904)(F:Hp):Plain Tryz.prog F 103 [S s] (.bool (eP s)):=by
 refine dQ (N:=18) (rv:=[.tmp 2]) eW mixed Tryz.func103 rfl rfl rfl rfl rfl ?_;(refine l5 ?_;repeat intro b);refine lV ?_;(refine l5 ?_;repeat intro b);refine lV ?_;(refine l5 ?_;repeat intro b);refine mA (VS.freeze 0 [0,3] rfl rfl rfl rfl fun F1 hs1 hf1=>VS.id ?_);(refine run ?_;repeat intro b);refine gm (.bool (!s.all sF)) rfl rfl rfl rfl V4 rfl rfl (fun _=>xb 159 #[.pointer (some ⟨b,0,none⟩)] TD (fun r=> !E3 r) sF s F1 (fun _ _=>rfl) (fun r hr=>?_) (fun c hc=>?_) (fun r _=>MO r (hf1 0 _ rfl))) ?_
 ·simp only[E3];have e1:decide (r≤122)=false:=by rw[decide_eq_false_iff_not];omega
  have e2:decide (r≤57)=false:=by rw[decide_eq_false_iff_not];omega
  rw[e1,e2];simp
 ·simp only[sF];have e1:decide (c.toNat≤122)=false:=by rw[decide_eq_false_iff_not];omega
  have e2:decide (c.toNat≤57)=false:=by rw[decide_eq_false_iff_not];omega
  rw[e1,e2];simp
 (refine run ?_;repeat intro b);have e1:decide ((1:Int)≤((bl (jE s)).length:Nat))=decide (1≤s.length):=by rw[decide_eq_decide,ga];omega
 have e2:decide ((((bl (jE s)).length:Nat):Int)≤12)=decide (s.length≤12):=by rw[decide_eq_decide,ga];omega
 simp only[gH,fK,eP,Bool.not_not,e1,e2]
theorem oK (s:List UInt8)(hs:s.length≤4611686018427387904)(F:Hp):Plain Tryz.prog F 63 [S s] (.bool (eP s)):=by
 refine dQ (N:=41) (rv:=[.tmp 2]) eW mixed Tryz.func63 rfl rfl rfl rfl rfl ?_;(refine run ?_;repeat intro b);refine eY (fun k:Nat=>k≤s.length∧(s.take k).all sF=true) (fun k=>⟨[(0,.v (S s)),(5,.v (i64 (s.length:Nat))),(6,.v (i64 (k:Nat)))],F,[],0⟩) (fun k=>s.length - k) 0 ⟨Nat.zero_le _,rfl⟩ (VS.eL [0,5,6] rfl rfl) ?_;rintro k ⟨hk,hall⟩;(refine run ?_;repeat intro b);refine eE _ rfl (fun h=>?_) (fun h=>?_)
 ·have hlt:k<s.length:=by simpa using h
  have hget:(bl (jE s)).getD ((k:Nat):Int).toNat 0=s[k]:=by
   rw[ga,Int.toNat_natCast,List.getD_eq_getElem?_getD,List.getElem?_eq_getElem hlt];rfl
  have Xb:(0:Int)≤(k:Nat)∧((k:Nat):Int)<(((bl (jE s)).length:Nat):Int):=⟨by omega,by rw[ga];omega⟩;(refine run ?_;repeat intro b);refine dL rfl rfl rfl Xb ?_;(refine run ?_;repeat intro b);refine iz rfl rfl rfl rfl rfl (fun _=>Xb) ?_;(refine run ?_;repeat intro b);refine iz rfl rfl rfl rfl rfl (fun _=>Xb) ?_;(refine run ?_;repeat intro b);refine iz rfl rfl rfl rfl rfl (fun _=>Xb) ?_;(refine run ?_;repeat intro b);rw[hget];refine eE (!sF s[k]) ?_ (fun h2=>?_) (fun h2=>?_)
  ·refine dV ?_;rw[fx,fK,fK];generalize s[k]=c;unfold sF;have e1:decide ((97:Int)≤((c.toNat:Nat):Int))=decide (97≤c.toNat):=by rw[decide_eq_decide];omega
   have e2:decide (((c.toNat:Nat):Int)≤122)=decide (c.toNat≤122):=by rw[decide_eq_decide];omega
   have e3:decide ((48:Int)≤((c.toNat:Nat):Int))=decide (48≤c.toNat):=by rw[decide_eq_decide];omega
   have e4:decide (((c.toNat:Nat):Int)≤57)=decide (c.toNat≤57):=by rw[decide_eq_decide];omega
   rw[e1,e2,e3,e4]
  ·have h3:s.all sF=false:=by
    have h4:sF s[k]=false:=by simpa using h2
    rw[Bool.eq_false_iff];intro h5;rw[List.all_eq_true]at h5;have:=h5 _ (List.getElem_mem hlt);rw[h4]at this;cases this
   (refine run ?_;repeat intro b);simp only[gH,eP,h3,Bool.and_false]
  have h4:sF s[k]=true:=by simpa using h2
  (refine run ?_;repeat intro b);rw[dT (by omega)];refine fp (k+1) ⟨hlt,?_⟩ (by omega) (VS.eL [0,5,6] rfl rfl);rw[List.take_succ_eq_append_getElem hlt,List.all_append,hall];simp[h4]
 have hge:k=s.length:=by
  have: ¬k<s.length:=by simpa using h
  omega
 subst hge;rw[List.take_length]at hall;(refine run ?_;repeat intro b);have e1:decide ((0:Int)<((bl (jE s)).length:Nat))=decide (1≤s.length):=by rw[decide_eq_decide,ga];omega
 have e2:decide ((((bl (jE s)).length:Nat):Int)<13)=decide (s.length≤12):=by rw[decide_eq_decide,ga];omega
 simp only[gH,fK,eP,hall,Bool.and_true,e1,e2]
end
section
open Go.TR
structure Ask where
 name:List UInt8
 value:List UInt8
 n:Nat
 tag:Nat
deriving DecidableEq
@[reducible] def Ask.cells (a:Ask):List Value:=[S a.name,S a.value,u64 (a.n:Nat),u64 (a.tag:Nat)]
@[reducible] def Ask.v (a:Ask):Value:=.agg #[S a.name,S a.value,u64 (a.n:Nat),u64 (a.tag:Nat)]
def Ask.none:Ask:=⟨[],[],0,0⟩
structure Ask.wf (a:Ask):Prop where
 name:a.name.length≤4611686018427387904
 value:a.value.length≤4611686018427387904
 n:a.n<18446744073709551616
 tag:a.tag<18446744073709551616
def eR (name value:List UInt8):Int:=if eP name=true then (if 20<value.length then 2 else 0) else 3
theorem sR {name value:List UInt8}(h:eR name value=0):eP name=true∧value.length≤20:=by
 unfold eR at h;split at h
 ·rename_i h1;split at h
  ·cases h
  exact⟨h1,by omega⟩
 cases h
theorem Dn {s:List UInt8}(h:eP s=true):s.length≤12:=by
 unfold eP at h;simp at h;exact h.1.2
attribute [local irreducible] vc dW gz fg fD gF gJ gB fJ Plain eD eX dK VS fv fA fG jt fh IntKind.wrap
set_option maxRecDepth 100000
theorem E0 (name value:List UInt8)(hn:name.length≤4611686018427387904)(F:Hp):Plain Tryz.prog F 125 [S name,S value] (i64 (eR name value)):=by
 refine dQ (N:=11) (rv:=[.tmp 4]) eW mixed Tryz.func125 rfl rfl rfl rfl rfl ?_;(refine run ?_;repeat intro b);refine dJ _ rfl rfl rfl Px rfl (oK name hn F) ?_;(refine run ?_;repeat intro b);refine eE (!eP name) rfl (fun h=>?_) (fun h=>?_)
 ·have h2: ¬eP name=true:=by simpa using h
  (refine run ?_;repeat intro b);simp only[gH,eR,aY h2]
 have h2:eP name=true:=by simpa using h
 (refine run ?_;repeat intro b);refine eE (decide (20<value.length)) ?_ (fun h3=>?_) (fun h3=>?_)
 ·refine dV ?_;rw[aV,ga];omega
 ·have h4:20<value.length:=by simpa using h3
  (refine run ?_;repeat intro b);simp only[gH,eR,aZ h2,aZ h4]
 have h4: ¬20<value.length:=by simpa using h3
 (refine run ?_;repeat intro b);simp only[gH,eR,aZ h2,aY h4]
theorem wP (name value:List UInt8)(hn:name.length≤4611686018427387904)(F:Hp):Plain Tryz.prog F 228 [S name,S value] (i64 (eR name value)):=by
 refine dQ (N:=13) (rv:=[.tmp 4]) eW mixed Tryz.func228 rfl rfl rfl rfl rfl ?_;(refine run ?_;repeat intro b);refine dJ _ rfl rfl rfl wH rfl (oF name hn F) ?_;(refine run ?_;repeat intro b);refine eE (!eP name) rfl (fun h=>?_) (fun h=>?_)
 ·have h2: ¬eP name=true:=by simpa using h
  (refine run ?_;repeat intro b);simp only[gH,eR,aY h2]
 have h2:eP name=true:=by simpa using h
 (refine run ?_;repeat intro b);refine eE (decide (20<value.length)) ?_ (fun h3=>?_) (fun h3=>?_)
 ·refine dV ?_;rw[aV,ga];omega
 ·have h4:20<value.length:=by simpa using h3
  (refine run ?_;repeat intro b);simp only[gH,eR,aZ h2,aZ h4]
 have h4: ¬20<value.length:=by simpa using h3
 (refine run ?_;repeat intro b);simp only[gH,eR,aZ h2,aY h4]
end
section
open Go.TR
structure Queue where
 most:Int
 wait:List Ask
deriving DecidableEq
def Queue.nil:Queue:=⟨0,[]⟩
def im:List Ask→Int
 | []=>0
 | a::l=>if eR a.name a.value=0 then im l else eR a.name a.value
def fj (q:Queue):Int:=if q.most<1∨30<q.most then 4 else if q.most<(q.wait.length:Int) then 7 else im q.wait
@[reducible] def qv (most:Int) (p:Option Addr) (n c:Nat):Value:=.agg #[i64 most,.slice p n c]
theorem gn (a:Ask):a.cells.length=4:=rfl
theorem xE (l:List Ask): ∀x∈l.flatMap Ask.cells,one (.v x)=true:=fun x hx=>by
 obtain⟨a,_,ha⟩:=List.mem_flatMap.1 hx;simp only[Ask.cells,aT,da,dH]at ha;rcases ha with rfl | rfl | rfl | rfl<;>rfl
theorem yd {l:List Ask}{j:Nat}(hj:j<l.length):im (l.drop j)=if eR l[j].name l[j].value=0 then im (l.drop (j+1)) else eR l[j].name l[j].value:=by
 rw[aO hj];rfl
structure Queue.wf (q:Queue):Prop where
 wait: ∀a∈q.wait,a.wf
 len:q.wait.length≤4611686018427387904
end
section
open Go.TR
attribute [local irreducible] vc dW gz fg fD gF gJ gB fJ Plain eD eX dK VS fv fA fG jt fh IntKind.wrap
set_option maxRecDepth 100000
theorem sQ (a:Ask)(hw:a.wf)(F:Hp):Plain Tryz.prog F 92 [a.v] (i64 (eR a.name a.value)):=by
 have hn:=hw.name;refine dQ (N:=13) (rv:=[.tmp 2]) eW mixed Tryz.func92 rfl rfl rfl rfl rfl ?_;(refine run ?_;repeat intro b);refine dJ _ rfl rfl rfl wH rfl (oF a.name hn F) ?_;(refine run ?_;repeat intro b);refine eE (!eP a.name) rfl (fun h=>?_) (fun h=>?_)
 ·have h2: ¬eP a.name=true:=by simpa using h
  (refine run ?_;repeat intro b);simp only[gH,eR,aY h2]
 have h2:eP a.name=true:=by simpa using h
 (refine run ?_;repeat intro b);refine eE (decide (20<a.value.length)) ?_ (fun h3=>?_) (fun h3=>?_)
 ·refine dV ?_;rw[aV,ga];omega
 ·have h4:20<a.value.length:=by simpa using h3
  (refine run ?_;repeat intro b);simp only[gH,eR,aZ h2,aZ h4]
 have h4: ¬20<a.value.length:=by simpa using h3
 (refine run ?_;repeat intro b);simp only[gH,eR,aZ h2,aY h4]
set_option maxHeartbeats 1000000 in
theorem oQ (q:Queue)(hw:q.wf){p:Option Addr}{c:Nat}{F:Hp}(hf:e9 F p (q.wait.flatMap Ask.cells)):Plain Tryz.prog F 89 [qv q.most p q.wait.length c] (i64 (fj q)):=by
 obtain⟨most,l⟩:=q;have hl:=hw.len;simp only at hf hl ⊢;refine dQ (N:=35) (rv:=[.tmp 2]) eW mixed Tryz.func89 rfl rfl rfl rfl rfl ?_;(refine run ?_;repeat intro b);refine eE (decide (most<1∨30<most)) ?_ (fun h=>?_) (fun h=>?_)
 ·refine dV ?_;rw[fx,Bool.decide_or]
 ·have h1:fj ⟨most,l⟩=4:=by unfold fj;rw[aZ (ar h)]
  (refine run ?_;repeat intro b);rw[h1];rfl
 (refine run ?_;repeat intro b);refine eE (decide (most<(l.length:Int))) rfl (fun h2=>?_) (fun h2=>?_)
 ·have h1:fj ⟨most,l⟩=7:=by unfold fj;rw[aY (au h),aZ (ar h2)]
  (refine run ?_;repeat intro b);rw[h1];rfl
 have h1:fj ⟨most,l⟩=im l:=by unfold fj;rw[aY (au h),aY (au h2)]
 rw[h1];(refine run ?_;repeat intro b);refine eY (fun j:Nat=>j≤l.length∧im l=im (l.drop j)) (fun j=>⟨[(23,.v (.slice p l.length c)),(24,.v (i64 (l.length:Nat))),(25,.v (i64 (j:Nat)))],F,[],1⟩) (fun j=>l.length - j) 0 ⟨az _,rfl⟩ (VS.iB [0] rfl (VS.eL [23,24,25] rfl rfl)) ?_;rintro j ⟨hj,hg⟩;by_cases hlt:j<l.length
 ·obtain⟨ho1,ho2⟩:=fa gn (by decide) hf j hlt;have hwa:=hw.wait l[j] (aj hlt);rw[yd hlt]at hg;have hstep:l.drop j=l[j]::l.drop (j+1):=aO hlt;generalize l[j]=a at hg ho2 hwa;(refine run ?_;repeat intro b);refine gw rfl (by omega) ?_;(refine run ?_;repeat intro b);refine dL rfl rfl rfl ⟨by omega,by omega,dR hf (j:=j * 4) (by rw[dO gn];omega)⟩ ?_;refine fB a.cells rfl rfl rfl rfl rfl (by rw[ae];exact ho1) (by rw[ae];exact ho2) ?_;(refine run ?_;repeat intro b);refine dJ _ rfl rfl rfl Va rfl (sQ a hwa F) ?_;(refine run ?_;repeat intro b);refine eE (decide (eR a.name a.value≠0)) ?_ (fun h3=>?_) (fun h3=>?_)
  ·refine dV ?_;rw[ai];simp
  ·rw[aY (ar h3)]at hg;(refine run ?_;repeat intro b);rw[hg];rfl
  rw[aZ (by simpa using h3)]at hg;(refine run ?_;repeat intro b);rw[dT (by omega)];exact iK (j+1) [1] [23,24,25] ⟨hlt,hg⟩ (by omega) rfl rfl rfl rfl trivial rfl
 have hge:j=l.length:=by omega
 subst hge;rw[cg]at hg;(refine run ?_;repeat intro b);refine gy rfl (by omega) ?_;(refine run ?_;repeat intro b);rw[hg];rfl
def qo (ahead batch every:Int):Bool:=decide (ahead<0)||decide (30<ahead)||decide (batch<1)||decide (30<batch)||decide (every<1)||decide (1000<every)
def ym (ahead batch every:Int):Int:=if qo ahead batch every=true then 4 else 0
def zq (ahead batch every:Int):Int:=if qo ahead batch every=true then 0 else (ahead / batch+1) * every
theorem Ab {ahead batch every:Int}(h:qo ahead batch every=false):0≤ahead∧ahead≤30∧1≤batch∧batch≤30∧1≤every∧every≤1000:=by
 unfold qo at h;simp only[aQ,aU]at h;omega
theorem Cq (ahead batch every:Int)(F:Hp):Plain Tryz.prog F 41 [i64 ahead,i64 batch,i64 every] (pair (i64 (zq ahead batch every)) (i64 (ym ahead batch every))):=by
 refine dQ (N:=36) (rv:=[.tmp 6,.tmp 7]) eW mixed Tryz.func41 rfl rfl rfl rfl rfl ?_;(refine run ?_;repeat intro b);refine eE (qo ahead batch every) ?_ (fun h=>?_) (fun h=>?_)
 ·refine dV ?_;rw[fx,fx,fx,fx,fx];rfl
 ·have h1:ym ahead batch every=4:=by unfold ym;rw[aZ h]
  have h2:zq ahead batch every=0:=by unfold zq;rw[aZ h]
  (refine run ?_;repeat intro b);rw[h1,h2];rfl
 obtain⟨g1,g2,g3,g4,g5,g6⟩:=Ab h;have h1:ym ahead batch every=0:=by unfold ym;rw[h];rfl
 have h2:zq ahead batch every=(ahead / batch+1) * every:=by unfold zq;rw[h];rfl
 have hd:ahead.tdiv batch=ahead / batch:=Int.tdiv_eq_ediv_of_nonneg g1;have hq1:0≤ahead / batch:=Int.ediv_nonneg g1 (by omega);have hq2:ahead / batch≤30:=Int.le_trans (Int.ediv_le_self _ g1) g2;have hm1:0≤(ahead / batch+1) * every:=Int.mul_nonneg (by omega) (by omega);have hm2:(ahead / batch+1) * every≤31 * 1000:=Int.mul_le_mul (by omega) g6 (by omega) (by omega);(refine run ?_;repeat intro b);refine dL rfl rfl rfl (by omega) ?_;(refine run ?_;repeat intro b);rw[hd,wrap_i64 (n:=ahead / batch) (by omega) (by omega),wrap_i64 (n:=ahead / batch+1) (by omega) (by omega),wrap_i64 (by omega) (by omega),h1,h2];rfl
end
end Go.Proofs.YthbnddgjkonkdaaGreatDoor
