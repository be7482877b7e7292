/- A part of the proof. -/
import Derived.Test.YthbnddgjkonkdaaGreatDoorTb
import Derived.Shelf.Abstract
import Derived.Below
import Derived.Lib.OthersKept
import Derived.Lib.TrimU
import Derived.Laws.RangeString
import Derived.Laws.RangeAny
set_option linter.unusedVariables false
set_option linter.unusedSimpArgs false
namespace Go.Proofs.YthbnddgjkonkdaaGreatDoor
section
open Go.TR
@[reducible] def i64 (n:Int):Value:=.int .i64 n
@[reducible] def u64 (n:Int):Value:=.int .u64 n
@[reducible] def u8 (n:Int):Value:=.int .u8 n
@[reducible] def pair (a b:Value):Value:=.tuple #[a,b]
@[reducible] def triple (a b c:Value):Value:=.tuple #[a,b,c]
@[simp] theorem fX (l:List UInt8):bl (jB l)=l:=rfl
theorem fu (b x:Bool):lL b true x=(b||x):=by cases b<;>rfl
theorem fH (b x:Bool):lL b x false=(b&&x):=by cases b<;>rfl
theorem wrap_i64 {n:Int}(h1: -9223372036854775808≤n)(h2:n≤9223372036854775807):IntKind.i64.wrap n=n:=IntWalk.i64_in n ⟨h1,h2⟩
theorem dQ {k:Nat}(h:k<9223372036854775807):IntKind.i64.wrap ((k:Int)+1)=((k+1:Nat):Int):=by
 rw[wrap_i64 (by omega) (by omega)];omega
theorem dO {F:Hp}{p:Option Addr}{cs:List Value}(h:eY F p cs){j:Nat}(hj:j<cs.length):p.isSome=true:=by
 have:=h j _ (ao hj);cases p with
 | none=>simp[im,gb]at this
 | some a=>rfl
theorem gQ {F:Hp}{p:Option Addr}{cs:List Value}(h:eY F p cs){j:Nat}(hj:j<cs.length):gb F (im p j)=some cs[j]:=h j _ (ao hj)
theorem iS {F F':Hp}(h:F.sub F'){p:Option Addr}{v:Value}(e:gb F p=some v):gb F' p=some v:=by
 cases p with
 | none=>simp[gb]at e
 | some a=>exact jx.sub h e
theorem dZ {F F':Hp}(h:F.sub F'){p:Option Addr}{cs:List Value}(e:eY F p cs):eY F' p cs:=fun j u hj=>iS h (e j u hj)
theorem eG (F:Hp)(p:Option Addr):eY F p []:=fun j u hj=>by simp at hj
theorem sc (p:Option Addr)(m n:Nat):im (im p m) n=im p (m+n):=by
 cases p with
 | none=>rfl
 | some a=>obtain⟨b,o,s⟩:=a;cases s<;>(simp only[im,aJ,Addr.add];by_cases h1:m=0<;>by_cases h2:n=0<;>simp[h1,h2,Nat.add_assoc])
theorem AO {F:Hp}{p:Option Addr}{cs:List Value}(h:eY F p cs)(k:Nat):eY F (im p k) (cs.drop k):=fun j u hj=>by
 rw[sc];rw[cu]at hj;exact h _ _ hj
theorem sd {F:Hp}{p:Option Addr}{cs:List Value}(h:eY F p cs)(k:Nat):eY F p (cs.take k):=fun j u hj=>by
 rw[cB]at hj;split at hj
 ·exact h _ _ hj
 simp at hj
theorem my {α:Type}{l1 l2:List α}{k:Nat}(h:l1.take k=l2.take k)(h1:k<l1.length)(h2:k<l2.length)(e:l1[k]=l2[k]):l1.take (k+1)=l2.take (k+1):=by
 rw[al h1,al h2,h,e]
theorem pM {α:Type}{l1 l2:List α}{k:Nat}(h1:k<l1.length)(h2:k<l2.length)(e:l1[k]≠l2[k]):l1≠l2:=by
 rintro rfl;exact e rfl
end
section
open Go.TR
theorem dL {α:Type}{f:α→List Value}{k:Nat}(hk: ∀a,(f a).length=k): ∀(l:List α),(l.flatMap f).length=l.length * k
 | []=>by simp
 | a::l=>by rw[cg,ag,hk,dL hk l,aH,dt];omega
theorem EC {α:Type}{f:α→List Value}{k:Nat}(hk: ∀a,(f a).length=k): ∀(l:List α) (j i:Nat) (h:j<l.length),i<k→(l.flatMap f)[j * k+i]? =(f l[j])[i]?
 | [],j,i,h,_=>by simp at h
 | a::l,0,i,h,hi=>by
  rw[cg,dv,aP,List.getElem?_append_left (by rw[hk];exact hi)];rfl
 | a::l,j+1,i,h,hi=>by
  rw[cg,List.getElem?_append_right (by rw[hk,dt];omega),hk];have:=EC hk l j i (by simpa using h) hi;rw[show (j+1) * k+i - k=j * k+i by rw[dt];omega,this];rfl
theorem pd {α:Type}{f:α→List Value}{k:Nat}(hk: ∀a,(f a).length=k): ∀(l:List α) (n:Nat),(l.take n).flatMap f=(l.flatMap f).take (n * k)
 | [],n=>by simp
 | a::l,0=>by simp
 | a::l,n+1=>by
  rw[List.take_succ_cons,cg,cg,pd hk l n,List.take_append,hk,an (l:=f a) (by rw[hk,dt];omega)];congr 2;rw[dt];omega
theorem ve {α:Type}{f:α→List Value}{k:Nat}(hk: ∀a,(f a).length=k): ∀(l:List α) (n:Nat),(l.drop n).flatMap f=(l.flatMap f).drop (n * k)
 | [],n=>by simp
 | a::l,0=>by simp
 | a::l,n+1=>by
  rw[List.drop_succ_cons,cg,ve hk l n,List.drop_append,hk,bW («as» :=f a) (by rw[hk,dt];omega),cX];congr 1;rw[dt];omega
theorem eZ {α:Type}{f:α→List Value}{k:Nat}(hk: ∀a,(f a).length=k)(hk0:0<k){F:Hp}{p:Option Addr}{l:List α}(h:eY F p (l.flatMap f))(j:Nat)(hj:j<l.length):
  (im p (j * k)).isSome=true∧ ∀i,i<k→gb F (im (im p (j * k)) i)=(f l[j])[i]? :=by
 have hl:=dL hk l;have hm:(j+1) * k≤l.length * k:=dq _ hj;rw[dt]at hm;refine⟨?_,fun i hi=>?_⟩
 ·have:=dO h (j:=j * k) (by omega);cases p with
  | none=>cases this
  | some a=>rfl
 have e:=EC hk l j i hj hi;have hi':i<(f l[j]).length:=by rw[hk];exact hi
 rw[ao hi']at e ⊢;rw[sc];exact h _ _ e
theorem nK {α:Type}{f:α→List Value}{k:Nat}(hk: ∀a,(f a).length=k){F:Hp}{p:Option Addr}{l:List α}(h:eY F p (l.flatMap f))(n:Nat):eY F p ((l.take n).flatMap f):=by
 rw[pd hk];exact sd h _
theorem mn {α:Type}{f:α→List Value}{k:Nat}(hk: ∀a,(f a).length=k){F:Hp}{p:Option Addr}{l:List α}(h:eY F p (l.flatMap f))(n c:Nat)(hn:n≤l.length)(hc:l.length≤c):eY F (jI p n c k) ((l.drop n).flatMap f):=by
 unfold jI;split
 ·rename_i h1;rw[bW (by omega)];exact eG _ _
 rw[ve hk];exact AO h _
end
section
open Go.RowKit Go.Lib
open Go.TR (Hp Plain dH S jB bl g9)
def kO (iA:UInt8→Bool)(s:List UInt8)(pos:Nat):Int:=if (s.drop pos).all iA=true then -1 else ((pos+(s.drop pos).findIdx (fun b=> !iA b):Nat):Int)
theorem EH {iA:UInt8→Bool}{s:List UInt8}{pos:Nat}(h: ¬pos<s.length):kO iA s pos= -1:=by
 unfold kO;rw[List.drop_eq_nil_of_le (by omega)];rfl
theorem CQ {iA:UInt8→Bool}{s:List UInt8}{pos:Nat}(h:pos<s.length)(hg:iA s[pos]=true):kO iA s pos=kO iA s (pos+1):=by
 unfold kO;rw[List.drop_eq_getElem_cons h];simp only[List.all_cons,hg,Bool.true_and,List.findIdx_cons,Bool.not_true,cond_false];split
 ·rfl
 congr 1;omega
theorem FA {iA:UInt8→Bool}{s:List UInt8}{pos:Nat}(h:pos<s.length)(hg:iA s[pos]=false):kO iA s pos=(pos:Int):=by
 unfold kO;rw[List.drop_eq_getElem_cons h];simp only[List.all_cons,hg,Bool.false_and,Bool.false_eq_true,if_false,List.findIdx_cons,Bool.not_false,cond_true,Nat.add_zero]
theorem DF (iA:UInt8→Bool)(s:List UInt8):decide (0≤kO iA s 0)= !s.all iA:=by
 unfold kO;rw[List.drop_zero];cases s.all iA with
 | true=>simp
 | false=>
  simp only[Bool.false_eq_true,if_false,Bool.not_false,decide_eq_true_eq];omega
theorem xa {P:Program}{g:Nat}(hb:dH P g)(args:Array Value)(w:World):(callFunc g args).run P w= .ok (.enter g args) w:=by
 obtain⟨fn,h1,h2,h3⟩:=hb;have hp:(program:Sem Program).run P w= .ok P w:=rfl;simp only[callFunc,Go.TR.run_bind,hp,h1,h3,h2,Bool.false_eq_true,if_false,Go.TR.run_pure]
set_option maxHeartbeats 2000000 in
set_option maxRecDepth 1000000 in
theorem w9 (g:Nat)(lb:Array Value)(hb:dH Tryz.prog g)(q:Nat→Bool)(iA:UInt8→Bool)(s:List UInt8)(F:Hp)(hlow: ∀b:UInt8,b.toNat<128→q b.toNat= !iA b)(hhigh: ∀r,128≤r→q r=true)(hgood: ∀b:UInt8,128≤b.toNat→iA b=false)
  (hp: ∀r:Nat,r≤1114111→Plain Tryz.prog F g (.int .i32 (r:Int)::lb.toList) (.bool (q r))) (w:World) (hw:F.le w):
  Calls Tryz.prog 272 #[S s,.func (.func g) #[] lb,.bool true] w fun e w'=>e= .returned (.int .i64 (kO iA s 0))∧Below w.heap.size w w':=by
 have eg:=xa hb;have hlen:(jB s).size=s.length:=rfl
 go_enter Tryz.func272,Tryz.ntmps272
 go_wp2
 go_loopg [] s.length (fun gf wx=>∃pos:Nat,wx.heap[w.heap.size]? =some (.stringIter (jB s) pos)∧Below w.heap.size w wx∧kO iA s pos=kO iA s 0∧s.length≤pos+gf)
 case atStart=>exact⟨0,World.iter_heap w (jB s) 0,(Below.refl _ w).alloc (Nat.le_refl _) _,rfl,by omega⟩
 case round=>
  obtain⟨pos,hit,hbw,hleft,hfu⟩:=hrel;by_cases hps:pos<(jB s).size
  ·obtain⟨g',rfl⟩: ∃g',gk=g'+1:=⟨gk - 1,by omega⟩;have hnx: ∀ty,(Instr.next (.pointer (some ⟨w.heap.size,0,none⟩)) true ty).run Tryz.prog wr=_:=fun ty=>Lib.run_next_any_at wr w.heap.size (jB s) pos ty hit hps;have hwd:=Lib.width_pos (jB s) pos;have hpl:pos<s.length:=hps;have hcase:(iA s[pos]=true∧q (Utf8.decode (jB s) pos).1=false∧(Utf8.decode (jB s) pos).2=1)∨(iA s[pos]=false∧q (Utf8.decode (jB s) pos).1=true):=by
    have hget:(jB s)[pos]'hps=s[pos]:=rfl;by_cases ha:(s[pos]).toNat<128
    ·have hd:=decode_ascii (jB s) pos hps (by rw[hget];exact ha);rw[hget]at hd;rw[hd];cases hgd:iA s[pos] with
     | true=>exact .inl ⟨rfl,by rw[hlow _ ha,hgd];rfl,rfl⟩
     | false=>exact .inr ⟨rfl,by rw[hlow _ ha,hgd];rfl⟩
    have hd:=decode_high (jB s) pos hps (by rw[hget];omega);exact .inr ⟨hgood _ (by omega),hhigh _ hd.1⟩
   have W7:=Lib.rune_le (jB s) pos;obtain⟨R,hR⟩: ∃R,(Utf8.decode (jB s) pos).1=R:=⟨_,rfl⟩;obtain⟨K,hK⟩: ∃K,(Utf8.decode (jB s) pos).2=K:=⟨_,rfl⟩;rw[hR,hK]at hnx;rw[hR]at W7;rw[hR,hK]at hcase;rw[hK]at hwd;have hit2:=Lib.iterAt_heap wr w.heap.size (jB s) pos (pos+K) hit;have hbw2:=Lib.below_iterAt hbw (k:=w.heap.size) (Nat.le_refl _) (jB s) (pos+K);obtain⟨W,hWd⟩: ∃W,wr.iterAt w.heap.size (jB s) (pos+K)=W:=⟨_,rfl⟩;rw[hWd]at hnx hit2 hbw2;have hltW:w.heap.size<W.heap.size:=(Array.getElem?_eq_some_iff.1 hit2).1;have cS:Calls Tryz.prog g (#[.int .i32 (R:Int)]++lb) W (fun e w'=>e= .returned (.bool (q R))∧g9 [] W w'):=by
    have h1:=hp R W7 W (hw.il (g9.FG hbw2) (by simp));have e1:(Value.int .i32 (R:Int)::lb.toList).toArray= #[.int .i32 (R:Int)]++lb:=by apply Array.ext';simp
    rw[e1]at h1;exact h1
   clear hp;rcases hcase with⟨h1,h2,h3⟩ | ⟨h1,h2⟩
   ·rw[h2]at cS
    go_wp2_with (go_at_fn g;refine cS.mono ?_;rintro e W' ⟨rfl,hbc⟩)
    go_roundg g'
    case measure=>omega
    case rel=>
     subst h3;exact⟨pos+1,(hbc.block _ hltW (by simp)).trans hit2,(hbw2.trans (hbc.below.mono hbw2.size)),by rw[←CQ hpl h1];exact hleft,by omega⟩
   rw[h2]at cS
   go_wp2_with (go_at_fn g;refine cS.mono ?_;rintro e W' ⟨rfl,hbc⟩)
   go_ret
   exact⟨by rw[←hleft,FA hpl h1]<;>rfl,(hbw2.trans (hbc.below.mono hbw2.size))⟩
  have hnx: ∀ty,(Instr.next (.pointer (some ⟨w.heap.size,0,none⟩)) true ty).run Tryz.prog wr=_:=fun ty=>Lib.run_next_end_at wr w.heap.size (jB s) pos ty hit hps;rw[EH (s:=s) (pos:=pos) hps]at hleft
  go_wp2
  go_ret
  exact⟨by rw[←hleft]<;>rfl,hbw⟩
theorem C4 (g:Nat)(lb:Array Value)(hb:dH Tryz.prog g)(q:Nat→Bool)(iA:UInt8→Bool)(s:List UInt8)(F:Hp)(hlow: ∀b:UInt8,b.toNat<128→q b.toNat= !iA b)(hhigh: ∀r,128≤r→q r=true)(hgood: ∀b:UInt8,128≤b.toNat→iA b=false)
  (hp: ∀r:Nat,r≤1114111→Plain Tryz.prog F g (.int .i32 (r:Int)::lb.toList) (.bool (q r))):Plain Tryz.prog F 272 [S s,.func (.func g) #[] lb,.bool true] (i64 (kO iA s 0)):=
 fun w hw=>(w9 g lb hb q iA s F hlow hhigh hgood hp w hw).mono fun e w' h=>⟨h.1,g9.FG h.2⟩
end
section
open Go.TR
attribute [local irreducible] vc dT gx fc fA gC gG gw fG Plain eu eR dH VS fq fx fD ju fe IntKind.wrap
set_option maxRecDepth 100000
theorem xc (g:Nat)(lb:Array Value)(hb:dH Tryz.prog g)(q:Nat→Bool)(iA:UInt8→Bool)(s:List UInt8)(F:Hp)(hlow: ∀b:UInt8,b.toNat<128→q b.toNat= !iA b)(hhigh: ∀r,128≤r→q r=true)(hgood: ∀b:UInt8,128≤b.toNat→iA b=false)
  (hp: ∀r:Nat,r≤1114111→Plain Tryz.prog F g (.int .i32 (r:Int)::lb.toList) (.bool (q r))):Plain Tryz.prog F 158 [S s,.func (.func g) #[] lb] (.bool (!s.all iA)):=by
 have h1:=C4 g lb hb q iA s F hlow hhigh hgood hp;have h2:Plain Tryz.prog F 222 [S s,.func (.func g) #[] lb] (i64 (kO iA s 0)):=by
  refine dN (N:=8) (rv:=[.tmp 4]) eP mixed Tryz.func222 rfl rfl rfl rfl rfl ?_;(refine run ?_;repeat intro b);refine dG _ rfl rfl rfl UZ rfl h1 ?_;(refine run ?_;repeat intro b);rfl
 refine dN (N:=9) (rv:=[.tmp 4]) eP mixed Tryz.func158 rfl rfl rfl rfl rfl ?_;(refine run ?_;repeat intro b);refine dG _ rfl rfl rfl Vy rfl h2 ?_;(refine run ?_;repeat intro b);rw[DF];rfl
def sI (b:UInt8):Bool:=(decide (97≤b.toNat)&&decide (b.toNat≤122))||(decide (48≤b.toNat)&&decide (b.toNat≤57))
def DS (r:Nat):Bool:=(decide (97≤r)&&decide (r≤122))||(decide (48≤r)&&decide (r≤57))
def eL (s:List UInt8):Bool:=decide (1≤s.length)&&decide (s.length≤12)&&s.all sI
theorem NG (r:Nat)(F:Hp):Plain Tryz.prog F 157 [.int .i32 (r:Int)] (.bool (DS r)):=by
 refine dN (N:=17) (rv:=[.tmp 2]) eP mixed Tryz.func157 rfl rfl rfl rfl rfl ?_;(refine run ?_;repeat intro b);simp only[gE,fH,fu,DS];have e1:decide ((97:Int)≤(r:Int))=decide (97≤r):=by rw[decide_eq_decide];omega
 have e2:decide ((r:Int)≤122)=decide (r≤122):=by rw[decide_eq_decide];omega
 have e3:decide ((48:Int)≤(r:Int))=decide (48≤r):=by rw[decide_eq_decide];omega
 have e4:decide ((r:Int)≤57)=decide (r≤57):=by rw[decide_eq_decide];omega
 rw[e1,e2,e3,e4]
theorem Na (r:Nat){F:Hp}{p:Option Addr}(hp:gb F p=some (.func (.func 157) #[] #[])):Plain Tryz.prog F 159 [.int .i32 (r:Int),.pointer p] (.bool (!DS r)):=by
 refine dN (N:=8) (rv:=[.tmp 3]) eP mixed Tryz.func159 rfl rfl rfl rfl rfl ?_;(refine run ?_;repeat intro b);refine fr (.func (.func 157) #[] #[]) rfl rfl rfl rfl hp ?_;(refine run ?_;repeat intro b);refine dG _ rfl rfl rfl V3 rfl (NG r F) ?_;(refine run ?_;repeat intro b);rfl
theorem oK (s:List UInt8)(hs:s.length≤4611686018427387904)(F:Hp):Plain Tryz.prog F 103 [S s] (.bool (eL s)):=by
 refine dN (N:=18) (rv:=[.tmp 2]) eP mixed Tryz.func103 rfl rfl rfl rfl rfl ?_;(refine lY ?_;repeat intro b);refine lJ ?_;(refine lY ?_;repeat intro b);refine lJ ?_;(refine lY ?_;repeat intro b);refine mq (VS.freeze 0 [0,3] rfl rfl rfl rfl fun F1 hs1 hf1=>VS.id ?_);(refine run ?_;repeat intro b);refine gi (.bool (!s.all sI)) rfl rfl rfl rfl VZ rfl rfl (fun _=>xc 159 #[.pointer (some ⟨b,0,none⟩)] Wg (fun r=> !DS r) sI s F1 (fun _ _=>rfl) (fun r hr=>?_) (fun c hc=>?_) (fun r _=>Na r (hf1 0 _ rfl))) ?_
 ·simp only[DS];have e1:decide (r≤122)=false:=by rw[decide_eq_false_iff_not];omega
  have e2:decide (r≤57)=false:=by rw[decide_eq_false_iff_not];omega
  rw[e1,e2];simp
 ·simp only[sI];have e1:decide (c.toNat≤122)=false:=by rw[decide_eq_false_iff_not];omega
  have e2:decide (c.toNat≤57)=false:=by rw[decide_eq_false_iff_not];omega
  rw[e1,e2];simp
 (refine run ?_;repeat intro b);have e1:decide ((1:Int)≤((bl (jB s)).length:Nat))=decide (1≤s.length):=by rw[decide_eq_decide,fX];omega
 have e2:decide ((((bl (jB s)).length:Nat):Int)≤12)=decide (s.length≤12):=by rw[decide_eq_decide,fX];omega
 simp only[gE,fH,eL,Bool.not_not,e1,e2]
theorem oC (s:List UInt8)(hs:s.length≤4611686018427387904)(F:Hp):Plain Tryz.prog F 63 [S s] (.bool (eL s)):=by
 refine dN (N:=41) (rv:=[.tmp 2]) eP mixed Tryz.func63 rfl rfl rfl rfl rfl ?_;(refine run ?_;repeat intro b);refine eU (fun k:Nat=>k≤s.length∧(s.take k).all sI=true) (fun k=>⟨[(0,.v (S s)),(5,.v (i64 (s.length:Nat))),(6,.v (i64 (k:Nat)))],F,[],0⟩) (fun k=>s.length - k) 0 ⟨Nat.zero_le _,rfl⟩ (VS.eH [0,5,6] rfl rfl) ?_;rintro k ⟨hk,hall⟩;(refine run ?_;repeat intro b);refine ez _ rfl (fun h=>?_) (fun h=>?_)
 ·have hlt:k<s.length:=by simpa using h
  have hget:(bl (jB s)).getD ((k:Nat):Int).toNat 0=s[k]:=by
   rw[fX,Int.toNat_natCast,List.getD_eq_getElem?_getD,List.getElem?_eq_getElem hlt];rfl
  have W8:(0:Int)≤(k:Nat)∧((k:Nat):Int)<(((bl (jB s)).length:Nat):Int):=⟨by omega,by rw[fX];omega⟩;(refine run ?_;repeat intro b);refine dI rfl rfl rfl W8 ?_;(refine run ?_;repeat intro b);refine iw rfl rfl rfl rfl rfl (fun _=>W8) ?_;(refine run ?_;repeat intro b);refine iw rfl rfl rfl rfl rfl (fun _=>W8) ?_;(refine run ?_;repeat intro b);refine iw rfl rfl rfl rfl rfl (fun _=>W8) ?_;(refine run ?_;repeat intro b);rw[hget];refine ez (!sI s[k]) ?_ (fun h2=>?_) (fun h2=>?_)
  ·refine dS ?_;rw[fu,fH,fH];generalize s[k]=c;unfold sI;have e1:decide ((97:Int)≤((c.toNat:Nat):Int))=decide (97≤c.toNat):=by rw[decide_eq_decide];omega
   have e2:decide (((c.toNat:Nat):Int)≤122)=decide (c.toNat≤122):=by rw[decide_eq_decide];omega
   have e3:decide ((48:Int)≤((c.toNat:Nat):Int))=decide (48≤c.toNat):=by rw[decide_eq_decide];omega
   have e4:decide (((c.toNat:Nat):Int)≤57)=decide (c.toNat≤57):=by rw[decide_eq_decide];omega
   rw[e1,e2,e3,e4]
  ·have h3:s.all sI=false:=by
    have h4:sI s[k]=false:=by simpa using h2
    rw[Bool.eq_false_iff];intro h5;rw[List.all_eq_true]at h5;have:=h5 _ (List.getElem_mem hlt);rw[h4]at this;cases this
   (refine run ?_;repeat intro b);simp only[gE,eL,h3,Bool.and_false]
  have h4:sI s[k]=true:=by simpa using h2
  (refine run ?_;repeat intro b);rw[dQ (by omega)];refine fj (k+1) ⟨hlt,?_⟩ (by omega) (VS.eH [0,5,6] rfl rfl);rw[List.take_succ_eq_append_getElem hlt,List.all_append,hall];simp[h4]
 have hge:k=s.length:=by
  have: ¬k<s.length:=by simpa using h
  omega
 subst hge;rw[List.take_length]at hall;(refine run ?_;repeat intro b);have e1:decide ((0:Int)<((bl (jB s)).length:Nat))=decide (1≤s.length):=by rw[decide_eq_decide,fX];omega
 have e2:decide ((((bl (jB s)).length:Nat):Int)<13)=decide (s.length≤12):=by rw[decide_eq_decide,fX];omega
 simp only[gE,fH,eL,hall,Bool.and_true,e1,e2]
end
section
open Go.TR
structure Ask where
 name:List UInt8
 value:List UInt8
 n:Nat
 tag:Nat
deriving DecidableEq
@[reducible] def Ask.cells (a:Ask):List Value:=[S a.name,S a.value,u64 (a.n:Nat),u64 (a.tag:Nat)]
@[reducible] def Ask.v (a:Ask):Value:=.agg #[S a.name,S a.value,u64 (a.n:Nat),u64 (a.tag:Nat)]
def Ask.none:Ask:=⟨[],[],0,0⟩
structure Ask.wf (a:Ask):Prop where
 name:a.name.length≤4611686018427387904
 value:a.value.length≤4611686018427387904
 n:a.n<18446744073709551616
 tag:a.tag<18446744073709551616
def eJ (name value:List UInt8):Int:=if eL name=true then (if 20<value.length then 2 else 0) else 3
theorem sC {name value:List UInt8}(h:eJ name value=0):eL name=true∧value.length≤20:=by
 unfold eJ at h;split at h
 ·rename_i h1;split at h
  ·cases h
  exact⟨h1,by omega⟩
 cases h
theorem C5 {s:List UInt8}(h:eL s=true):s.length≤12:=by
 unfold eL at h;simp at h;exact h.1.2
attribute [local irreducible] vc dT gx fc fA gC gG gw fG Plain eu eR dH VS fq fx fD ju fe IntKind.wrap
set_option maxRecDepth 100000
theorem D2 (name value:List UInt8)(hn:name.length≤4611686018427387904)(F:Hp):Plain Tryz.prog F 125 [S name,S value] (i64 (eJ name value)):=by
 refine dN (N:=11) (rv:=[.tmp 4]) eP mixed Tryz.func125 rfl rfl rfl rfl rfl ?_;(refine run ?_;repeat intro b);refine dG _ rfl rfl rfl ON rfl (oC name hn F) ?_;(refine run ?_;repeat intro b);refine ez (!eL name) rfl (fun h=>?_) (fun h=>?_)
 ·have h2: ¬eL name=true:=by simpa using h
  (refine run ?_;repeat intro b);simp only[gE,eJ,aY h2]
 have h2:eL name=true:=by simpa using h
 (refine run ?_;repeat intro b);refine ez (decide (20<value.length)) ?_ (fun h3=>?_) (fun h3=>?_)
 ·refine dS ?_;rw[aV,fX];omega
 ·have h4:20<value.length:=by simpa using h3
  (refine run ?_;repeat intro b);simp only[gE,eJ,aZ h2,aZ h4]
 have h4: ¬20<value.length:=by simpa using h3
 (refine run ?_;repeat intro b);simp only[gE,eJ,aZ h2,aY h4]
theorem wk (name value:List UInt8)(hn:name.length≤4611686018427387904)(F:Hp):Plain Tryz.prog F 228 [S name,S value] (i64 (eJ name value)):=by
 refine dN (N:=13) (rv:=[.tmp 4]) eP mixed Tryz.func228 rfl rfl rfl rfl rfl ?_;(refine run ?_;repeat intro b);refine dG _ rfl rfl rfl wB rfl (oK name hn F) ?_;(refine run ?_;repeat intro b);refine ez (!eL name) rfl (fun h=>?_) (fun h=>?_)
 ·have h2: ¬eL name=true:=by simpa using h
  (refine run ?_;repeat intro b);simp only[gE,eJ,aY h2]
 have h2:eL name=true:=by simpa using h
 (refine run ?_;repeat intro b);refine ez (decide (20<value.length)) ?_ (fun h3=>?_) (fun h3=>?_)
 ·refine dS ?_;rw[aV,fX];omega
 ·have h4:20<value.length:=by simpa using h3
  (refine run ?_;repeat intro b);simp only[gE,eJ,aZ h2,aZ h4]
 have h4: ¬20<value.length:=by simpa using h3
 (refine run ?_;repeat intro b);simp only[gE,eJ,aZ h2,aY h4]
end
section
open Go.TR
structure Queue where
 most:Int
 wait:List Ask
deriving DecidableEq
def Queue.nil:Queue:=⟨0,[]⟩
def ij:List Ask→Int
 | []=>0
 | a::l=>if eJ a.name a.value=0 then ij l else eJ a.name a.value
def fg (q:Queue):Int:=if q.most<1∨30<q.most then 4 else if q.most<(q.wait.length:Int) then 7 else ij q.wait
@[reducible] def qv (most:Int) (p:Option Addr) (n c:Nat):Value:=.agg #[i64 most,.slice p n c]
theorem gj (a:Ask):a.cells.length=4:=rfl
theorem xg (l:List Ask): ∀x∈l.flatMap Ask.cells,one (.v x)=true:=fun x hx=>by
 obtain⟨a,_,ha⟩:=List.mem_flatMap.1 hx;simp only[Ask.cells,aT,cZ,dE]at ha;rcases ha with rfl | rfl | rfl | rfl<;>rfl
theorem zo {l:List Ask}{j:Nat}(hj:j<l.length):ij (l.drop j)=if eJ l[j].name l[j].value=0 then ij (l.drop (j+1)) else eJ l[j].name l[j].value:=by
 rw[aO hj];rfl
structure Queue.wf (q:Queue):Prop where
 wait: ∀a∈q.wait,a.wf
 len:q.wait.length≤4611686018427387904
end
section
open Go.TR
attribute [local irreducible] vc dT gx fc fA gC gG gw fG Plain eu eR dH VS fq fx fD ju fe IntKind.wrap
set_option maxRecDepth 100000
theorem sK (a:Ask)(hw:a.wf)(F:Hp):Plain Tryz.prog F 92 [a.v] (i64 (eJ a.name a.value)):=by
 have hn:=hw.name;refine dN (N:=13) (rv:=[.tmp 2]) eP mixed Tryz.func92 rfl rfl rfl rfl rfl ?_;(refine run ?_;repeat intro b);refine dG _ rfl rfl rfl wB rfl (oK a.name hn F) ?_;(refine run ?_;repeat intro b);refine ez (!eL a.name) rfl (fun h=>?_) (fun h=>?_)
 ·have h2: ¬eL a.name=true:=by simpa using h
  (refine run ?_;repeat intro b);simp only[gE,eJ,aY h2]
 have h2:eL a.name=true:=by simpa using h
 (refine run ?_;repeat intro b);refine ez (decide (20<a.value.length)) ?_ (fun h3=>?_) (fun h3=>?_)
 ·refine dS ?_;rw[aV,fX];omega
 ·have h4:20<a.value.length:=by simpa using h3
  (refine run ?_;repeat intro b);simp only[gE,eJ,aZ h2,aZ h4]
 have h4: ¬20<a.value.length:=by simpa using h3
 (refine run ?_;repeat intro b);simp only[gE,eJ,aZ h2,aY h4]
set_option maxHeartbeats 1000000 in
theorem oM (q:Queue)(hw:q.wf){p:Option Addr}{c:Nat}{F:Hp}(hf:eY F p (q.wait.flatMap Ask.cells)):Plain Tryz.prog F 89 [qv q.most p q.wait.length c] (i64 (fg q)):=by
 obtain⟨most,l⟩:=q;have hl:=hw.len;simp only at hf hl ⊢;refine dN (N:=35) (rv:=[.tmp 2]) eP mixed Tryz.func89 rfl rfl rfl rfl rfl ?_;(refine run ?_;repeat intro b);refine ez (decide (most<1∨30<most)) ?_ (fun h=>?_) (fun h=>?_)
 ·refine dS ?_;rw[fu,Bool.decide_or]
 ·have h1:fg ⟨most,l⟩=4:=by unfold fg;rw[aZ (ar h)]
  (refine run ?_;repeat intro b);rw[h1];rfl
 (refine run ?_;repeat intro b);refine ez (decide (most<(l.length:Int))) rfl (fun h2=>?_) (fun h2=>?_)
 ·have h1:fg ⟨most,l⟩=7:=by unfold fg;rw[aY (au h),aZ (ar h2)]
  (refine run ?_;repeat intro b);rw[h1];rfl
 have h1:fg ⟨most,l⟩=ij l:=by unfold fg;rw[aY (au h),aY (au h2)]
 rw[h1];(refine run ?_;repeat intro b);refine eU (fun j:Nat=>j≤l.length∧ij l=ij (l.drop j)) (fun j=>⟨[(23,.v (.slice p l.length c)),(24,.v (i64 (l.length:Nat))),(25,.v (i64 (j:Nat)))],F,[],1⟩) (fun j=>l.length - j) 0 ⟨az _,rfl⟩ (VS.iy [0] rfl (VS.eH [23,24,25] rfl rfl)) ?_;rintro j ⟨hj,hg⟩;by_cases hlt:j<l.length
 ·obtain⟨ho1,ho2⟩:=eZ gj (by decide) hf j hlt;have hwa:=hw.wait l[j] (aj hlt);rw[zo hlt]at hg;have hstep:l.drop j=l[j]::l.drop (j+1):=aO hlt;generalize l[j]=a at hg ho2 hwa;(refine run ?_;repeat intro b);refine gm rfl (by omega) ?_;(refine run ?_;repeat intro b);refine dI rfl rfl rfl ⟨by omega,by omega,dO hf (j:=j * 4) (by rw[dL gj];omega)⟩ ?_;refine fy a.cells rfl rfl rfl rfl rfl (by rw[ae];exact ho1) (by rw[ae];exact ho2) ?_;(refine run ?_;repeat intro b);refine dG _ rfl rfl rfl UF rfl (sK a hwa F) ?_;(refine run ?_;repeat intro b);refine ez (decide (eJ a.name a.value≠0)) ?_ (fun h3=>?_) (fun h3=>?_)
  ·refine dS ?_;rw[ai];simp
  ·rw[aY (ar h3)]at hg;(refine run ?_;repeat intro b);rw[hg];rfl
  rw[aZ (by simpa using h3)]at hg;(refine run ?_;repeat intro b);rw[dQ (by omega)];exact iH (j+1) [1] [23,24,25] ⟨hlt,hg⟩ (by omega) rfl rfl rfl rfl trivial rfl
 have hge:j=l.length:=by omega
 subst hge;rw[bZ]at hg;(refine run ?_;repeat intro b);refine gu rfl (by omega) ?_;(refine run ?_;repeat intro b);rw[hg];rfl
def pY (ahead batch every:Int):Bool:=decide (ahead<0)||decide (30<ahead)||decide (batch<1)||decide (30<batch)||decide (every<1)||decide (1000<every)
def yI (ahead batch every:Int):Int:=if pY ahead batch every=true then 4 else 0
def x9 (ahead batch every:Int):Int:=if pY ahead batch every=true then 0 else (ahead / batch+1) * every
theorem Ad {ahead batch every:Int}(h:pY ahead batch every=false):0≤ahead∧ahead≤30∧1≤batch∧batch≤30∧1≤every∧every≤1000:=by
 unfold pY at h;simp only[aQ,aU]at h;omega
theorem C8 (ahead batch every:Int)(F:Hp):Plain Tryz.prog F 41 [i64 ahead,i64 batch,i64 every] (pair (i64 (x9 ahead batch every)) (i64 (yI ahead batch every))):=by
 refine dN (N:=36) (rv:=[.tmp 6,.tmp 7]) eP mixed Tryz.func41 rfl rfl rfl rfl rfl ?_;(refine run ?_;repeat intro b);refine ez (pY ahead batch every) ?_ (fun h=>?_) (fun h=>?_)
 ·refine dS ?_;rw[fu,fu,fu,fu,fu];rfl
 ·have h1:yI ahead batch every=4:=by unfold yI;rw[aZ h]
  have h2:x9 ahead batch every=0:=by unfold x9;rw[aZ h]
  (refine run ?_;repeat intro b);rw[h1,h2];rfl
 obtain⟨g1,g2,g3,g4,g5,g6⟩:=Ad h;have h1:yI ahead batch every=0:=by unfold yI;rw[h];rfl
 have h2:x9 ahead batch every=(ahead / batch+1) * every:=by unfold x9;rw[h];rfl
 have hd:ahead.tdiv batch=ahead / batch:=Int.tdiv_eq_ediv_of_nonneg g1;have hq1:0≤ahead / batch:=Int.ediv_nonneg g1 (by omega);have hq2:ahead / batch≤30:=Int.le_trans (Int.ediv_le_self _ g1) g2;have hm1:0≤(ahead / batch+1) * every:=Int.mul_nonneg (by omega) (by omega);have hm2:(ahead / batch+1) * every≤31 * 1000:=Int.mul_le_mul (by omega) g6 (by omega) (by omega);(refine run ?_;repeat intro b);refine dI rfl rfl rfl (by omega) ?_;(refine run ?_;repeat intro b);rw[hd,wrap_i64 (n:=ahead / batch) (by omega) (by omega),wrap_i64 (n:=ahead / batch+1) (by omega) (by omega),wrap_i64 (by omega) (by omega),h1,h2];rfl
end
end Go.Proofs.YthbnddgjkonkdaaGreatDoor
