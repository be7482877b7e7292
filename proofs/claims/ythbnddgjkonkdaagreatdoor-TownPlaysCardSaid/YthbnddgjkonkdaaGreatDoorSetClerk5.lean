/- A part of the proof. -/
import Derived.Test.YthbnddgjkonkdaaGreatDoorSetOwner5
set_option linter.unusedVariables false
set_option linter.unusedSimpArgs false
namespace Go.Proofs.YthbnddgjkonkdaaGreatDoor
section
open Go.TR
attribute [local irreducible] vc dW gz fg fD gF gJ gB fJ Plain eD eX dK VS fv fA fG jt fh IntKind.wrap
set_option maxHeartbeats 4000000
structure Poll where
 least:Int
 most:Int
 lost:Int
 nJ:Int
 next:Int
 asked:Int
@[reducible] def Poll.v (p:Poll):Value:=.agg #[.int .i64 p.least,.int .i64 p.most,.int .i64 p.lost,.int .i64 p.nJ,.int .i64 p.next,.int .i64 p.asked]
def Poll.bad (p:Poll):Bool:=decide (p.least<1)||decide (p.most<p.least)||decide (1000<p.most)||decide (p.lost<1)||decide (100<p.lost)||decide (p.nJ<p.least)||decide (p.most<p.nJ)||decide (p.next<0)||decide (1000000000<p.next)||decide (p.asked<0)||decide (1000000<p.asked)
def Poll.fault (p:Poll):Int:=if p.bad then 4 else 0
set_option maxRecDepth 100000 in
theorem sX (p:Poll)(F:Hp):Plain Tryz.prog F 165 [p.v] (i64 p.fault):=by
 refine dQ (N:=62) (rv:=[.tmp 2]) eW mixed Tryz.func165 rfl rfl rfl rfl rfl ?_;(refine run ?_;repeat intro b);refine eE _ rfl (fun h=>?_) (fun h=>?_)
 all_goals
  (refine run ?_;repeat intro b);simp only[fx]at h;simp only[gH,Poll.fault,Poll.bad,h];rfl
def Poll.kE (p:Poll)(now:Int):Int:=if p.bad then 4 else if now<0∨1000000000<now then 4 else 0
theorem Poll.n9 (p:Poll):(p.fault==0)= !p.bad:=by unfold Poll.fault;cases p.bad<;>rfl
set_option maxRecDepth 100000 in
theorem wD (p:Poll)(now:Int)(F:Hp):Plain Tryz.prog F 277 [p.v,i64 now] (i64 (p.kE now)):=by
 refine dQ (N:=19) (rv:=[.tmp 4]) eW mixed Tryz.func277 rfl rfl rfl rfl rfl ?_;(refine run ?_;repeat intro b);refine dJ (i64 p.fault) rfl rfl rfl Ly rfl (sX p F) ?_;(refine run ?_;repeat intro b);refine eE _ rfl (fun h=>?_) (fun h=>?_)
 all_goals
  (refine run ?_;repeat intro b);simp only[fx,fK,Poll.n9]at h;simp only[gH,Poll.kE,Poll.fault];cases hb:p.bad<;>simp_all
def Poll.none:Poll:=⟨0,0,0,0,0,0⟩
def Poll.fresh (least most lost:Int):Poll:=⟨least,most,lost,least,0,0⟩
def Poll.ij (p:Poll)(e:Int):Poll:=if e≠0 then Poll.none else p
theorem Lz (p:Poll):(p.fault != 0)=p.bad:=by unfold Poll.fault;cases p.bad<;>rfl
set_option maxRecDepth 100000 in
theorem M7 (least most lost:Int)(F:Hp):Plain Tryz.prog F 109 [i64 least,i64 most,i64 lost] (pair ((Poll.fresh least most lost).ij (Poll.fresh least most lost).fault).v (i64 (Poll.fresh least most lost).fault)):=by
 refine dQ (N:=22) (rv:=[.cell 6 159,.tmp 7]) eW mixed Tryz.func109 rfl rfl rfl rfl rfl ?_;(refine run ?_;repeat intro b);refine dJ (i64 (Poll.fresh least most lost).fault) rfl rfl rfl Ly rfl (sX (Poll.fresh least most lost) F) ?_;(refine run ?_;repeat intro b);refine eE _ rfl (fun h=>?_) (fun h=>?_)
 ·(refine run ?_;repeat intro b);have h':(Poll.fresh least most lost).fault≠0:=by simpa using h
  simp only[Poll.ij,h',ne_eq,not_false_eq_true,dF];rfl
 (refine run ?_;repeat intro b);have h':(Poll.fresh least most lost).fault=0:=by simpa using h
 simp only[Poll.ij,h',ne_eq,dG,dE];rfl
def Poll.zc (p:Poll)(now:Int):Bool:=(p.kE now==0)&&decide (p.next≤now)
set_option maxRecDepth 100000 in
theorem LC (p:Poll)(now:Int)(F:Hp):Plain Tryz.prog F 279 [p.v,i64 now] (pair (.bool (p.zc now)) (i64 (p.kE now))):=by
 refine dQ (N:=19) (rv:=[.tmp 4,.tmp 5]) eW mixed Tryz.func279 rfl rfl rfl rfl rfl ?_;(refine run ?_;repeat intro b);refine dJ (i64 (p.kE now)) rfl rfl rfl QR rfl (wD p now F) ?_;(refine run ?_;repeat intro b);simp only[fK,gH,Poll.zc]
set_option maxRecDepth 100000 in
theorem Bi (p:Poll)(F:Hp):Plain Tryz.prog F 240 [p.v] (pair (.bool (!p.bad&&decide (p.lost≤p.asked))) (i64 p.fault)):=by
 refine dQ (N:=17) (rv:=[.tmp 2,.tmp 3]) eW mixed Tryz.func240 rfl rfl rfl rfl rfl ?_;(refine run ?_;repeat intro b);refine dJ (i64 p.fault) rfl rfl rfl Ly rfl (sX p F) ?_;(refine run ?_;repeat intro b);simp only[fK,gH,Poll.n9]
def later (now n:Int):Int:=if 1000000000<IntKind.i64.wrap (now+n) then 1000000000 else IntKind.i64.wrap (now+n)
set_option maxRecDepth 100000 in
theorem xM (now n:Int)(F:Hp):Plain Tryz.prog F 278 [i64 now,i64 n] (i64 (later now n)):=by
 refine dQ (N:=9) (rv:=[.tmp 4]) eW mixed Tryz.func278 rfl rfl rfl rfl rfl ?_;(refine run ?_;repeat intro b);rfl
def min2 (x y:Int):Int:=if y<x then y else x
def Poll.heard (p:Poll)(now:Int):Poll:={ p with asked:=0,nJ:=p.least,next:=min2 p.next (later now p.least) }
set_option maxRecDepth 100000 in
theorem Hq (p:Poll)(now:Int)(F:Hp):Plain Tryz.prog F 238 [p.v,i64 now] (pair ((p.heard now).ij (p.kE now)).v (i64 (p.kE now))):=by
 refine dQ (N:=27) (rv:=[.cell 4 159,.tmp 5]) eW mixed Tryz.func238 rfl rfl rfl rfl rfl ?_;(refine run ?_;repeat intro b);refine dJ (i64 (p.kE now)) rfl rfl rfl QR rfl (wD p now F) ?_;(refine run ?_;repeat intro b);refine eE _ rfl (fun h=>?_) (fun h=>?_)
 ·(refine run ?_;repeat intro b);have h':p.kE now≠0:=by simpa using h
  simp only[Poll.ij,h',ne_eq,not_false_eq_true,dF];rfl
 (refine run ?_;repeat intro b);have h':p.kE now=0:=by simpa using h
 refine jM 8 (by kernel_rfl) rfl rfl ?_;(refine run ?_;repeat intro b);refine dJ (i64 (later now p.least)) rfl rfl rfl QZ rfl (xM now p.least F) ?_;(refine run ?_;repeat intro b);simp only[Poll.ij,h',ne_eq,dG,dE];rfl
def Poll.mU (p:Poll)(now:Int):Poll:={ p with asked:=IntKind.i64.wrap (p.asked+1),next:=later now p.nJ,nJ:=min2 (IntKind.i64.wrap (2 * p.nJ)) p.most }
def Poll.lF (p:Poll)(now:Int):Int:=if p.kE now≠0 then p.kE now else if p.zc now=false then 9 else if p.asked=1000000 then 7 else 0
set_option maxRecDepth 100000 in
theorem Be (p:Poll)(now:Int)(F:Hp):Plain Tryz.prog F 239 [p.v,i64 now] (pair ((p.mU now).ij (p.lF now)).v (i64 (p.lF now))):=by
 refine dQ (N:=45) (rv:=[.cell 4 159,.tmp 5]) eW mixed Tryz.func239 rfl rfl rfl rfl rfl ?_;(refine run ?_;repeat intro b);refine dJ (pair (.bool (p.zc now)) (i64 (p.kE now))) rfl rfl rfl VK rfl (LC p now F) ?_;(refine run ?_;repeat intro b);refine eE _ rfl (fun h=>?_) (fun h=>?_)
 ·(refine run ?_;repeat intro b);have h':p.kE now≠0:=by simpa using h
  simp only[Poll.ij,Poll.lF,h',ne_eq,not_false_eq_true,dF];rfl
 (refine run ?_;repeat intro b);have h':p.kE now=0:=by simpa using h
 refine eE _ rfl (fun h2=>?_) (fun h2=>?_)
 ·(refine run ?_;repeat intro b);have h2':p.zc now=false:=by simpa using h2
  simp only[Poll.ij,Poll.lF,h',h2',ne_eq,dG,dF,dE];rfl
 (refine run ?_;repeat intro b);have h2':p.zc now=true:=by simpa using h2
 refine eE _ rfl (fun h3=>?_) (fun h3=>?_)
 ·(refine run ?_;repeat intro b);have h3':p.asked=1000000:=by simpa using h3
  simp only[Poll.ij,Poll.lF,h',h2',h3',ne_eq,dG,dF,dE,Bool.true_eq_false];rfl
 (refine run ?_;repeat intro b);have h3': ¬p.asked=1000000:=by simpa using h3
 refine dJ (i64 (later now p.nJ)) rfl rfl rfl QZ rfl (xM now p.nJ F) ?_;(refine run ?_;repeat intro b);simp only[Poll.ij,Poll.lF,h',h2',h3',ne_eq,dG,dE,Bool.true_eq_false];rfl
def Poll.Uj (p:Poll)(now:Int):Poll:={ p with asked:=0,nJ:=p.least,next:=min2 p.next (later now p.least) }
set_option maxRecDepth 100000 in
theorem JT (p:Poll)(now:Int)(F:Hp):Plain Tryz.prog F 77 [p.v,i64 now] (p.heard now).v:=by
 refine dQ (N:=23) (rv:=[.cell 4 159]) eW mixed Tryz.func77 rfl rfl rfl rfl rfl ?_;(refine run ?_;repeat intro b);refine eE _ rfl (fun h=>?_) (fun h=>?_)
 all_goals
  (refine run ?_;repeat intro b);refine eE _ rfl (fun h2=>?_) (fun h2=>?_)
  all_goals
   (refine run ?_;repeat intro b);simp only[av,aU]at h h2;simp only[Poll.heard,later,min2,h,h2,dF,dE];rfl
def steps (now:Int)(k:Nat):Int:=if 1000000000≤now then now else if 1000000000≤now+k then 1000000000 else now+k
theorem Hj (now:Int)(k:Nat):steps now (k+1)=if steps now k<1000000000 then steps now k+1 else steps now k:=by
 unfold steps
 repeat' split
 all_goals omega
theorem Mf (now:Int)(k:Nat)(h:0≤now∧now≤1000000000):0≤steps now k∧steps now k≤1000000000:=by
 unfold steps
 repeat' split
 all_goals omega
theorem Hh (now:Int):steps now 0=now:=by
 unfold steps
 repeat' split
 all_goals omega
def Poll.xo (p:Poll)(now:Int):Poll:={ p with asked:=IntKind.i64.wrap (p.asked+1),next:=steps now p.nJ.toNat,nJ:=if p.most<IntKind.i64.wrap (p.nJ+p.nJ) then p.most else IntKind.i64.wrap (p.nJ+p.nJ) }
set_option maxRecDepth 100000 in
theorem Nr (p:Poll)(now:Int)(F:Hp)(hg:p.nJ≤1000000)(hn:0≤now∧now≤1000000000):Plain Tryz.prog F 79 [p.v,i64 now] (p.xo now).v:=by
 refine dQ (N:=38) (rv:=[.cell 4 159]) eW mixed Tryz.func79 rfl rfl rfl rfl rfl ?_;(refine run ?_;repeat intro b);rename_i b0;refine L2 (T:=fun k:{ k:Nat // (k:Int)≤p.nJ∨k=0 }=>⟨[(2,.loc 0 0),(4,.loc 1 0),(12,.v (i64 p.nJ)),(13,.v (i64 (k.1:Nat)))],F,
  [(1,⟨some b,[.v (i64 0),.v (i64 0),.v (i64 0),.v (i64 0),.v (i64 0),.v (i64 0)],159,6⟩),(0,⟨some b0,[.v (i64 p.least),.v (i64 p.most),.v (i64 p.lost),.v (i64 p.nJ),.v (i64 (steps now k.1)),.v (i64 (IntKind.i64.wrap (p.asked+1)))],159,6⟩)],2⟩)
  (fun k=>p.nJ.toNat - k.1) ⟨0,.inr rfl⟩ ?_ ?_
 ·refine VS.Ck [2,4,12,13] rfl ?_;simp only[Hh now];rfl
 rintro⟨k,hk⟩;have hs:=Mf now k hn;(refine run ?_;repeat intro b);refine eE _ rfl (fun h=>?_) (fun h=>?_)
 ·simp only[av]at h;(refine run ?_;repeat intro b);refine eE _ rfl (fun h2=>?_) (fun h2=>?_)
  all_goals
   simp only[av,aU]at h2;(refine run ?_;repeat intro b);refine O9 ⟨k+1,.inl (by omega)⟩ (by simp only;omega) (VS.Ck [2,4,12,13] rfl ?_);have e:=Hj now k;rw[wrap_i64 (n:=(k:Int)+1) (by omega) (by omega)]
  ·rw[aZ h2]at e;rw[wrap_i64 (n:=steps now k+1) (by omega) (by omega),←e];rfl
  rw[aY h2]at e;rw[←e];rfl
 simp only[aU]at h;(refine run ?_;repeat intro b);have hkg:k=p.nJ.toNat:=by omega
 subst hkg;refine eE _ rfl (fun h2=>?_) (fun h2=>?_)
 all_goals
  (refine run ?_;repeat intro b);simp only[av,aU]at h2;simp only[Poll.xo,h2,dF,dE];rfl
end
section
open Go.TR
structure mN where
 iP:Int
 from_:Int
 since:Int
 due:Int
 dS:List Head
 head:Head
 nL:jo
structure LP where
 l:mN
 ph:Option Addr
 ch:Nat
 a:Lay
@[reducible] def LP.row (x:LP):List Value:=[i64 x.l.iP,i64 x.l.from_,i64 x.l.since,i64 x.l.due,.slice x.ph x.l.dS.length x.ch,i64 x.l.head.dZ,u64 (x.l.head.root:Nat),u64 (x.l.head.prev:Nat),i64 x.l.head.at_,S x.l.nL.name,.slice x.a.e x.l.nL.gg.length x.a.ce,.slice x.a.s x.l.nL.fF.length x.a.cs]
theorem je (x:LP):x.row.length=12:=rfl
theorem qn (l:List LP): ∀x∈l.flatMap LP.row,one (.v x)=true:=fun x hx=>by
 obtain⟨a,_,ha⟩:=List.mem_flatMap.1 hx;simp only[LP.row,aT,da,dH]at ha;rcases ha with rfl | rfl | rfl | rfl | rfl | rfl | rfl | rfl | rfl | rfl | rfl | rfl<;>rfl
structure mN.wf (l:mN):Prop where
 dS:l.dS.length * 32≤140737488355328
 each: ∀x∈l.dS,x.wf
 head:l.head.wf
 nL:l.nL.wf
 gg:l.nL.gg.length * 32≤140737488355328
 fF:l.nL.fF.length * 8≤140737488355328
structure LP.at (F:Hp) (x:LP):Prop where
 dS:e9 F x.ph (x.l.dS.flatMap Head.row)
 nL:x.l.nL.at F x.a
theorem LP.e8 {F F':Hp}(h:F.sub F'){x:LP}(k:x.at F):x.at F':=⟨eu h k.dS,jo.e8 h k.nL⟩
structure NP where
 now:Int
 gE:List LP
 p:Option Addr
 c:Nat
@[reducible] def NP.v (n:NP):Value:=.agg #[i64 n.now,.slice n.p n.gE.length n.c]
structure NP.at (F:Hp) (n:NP):Prop where
 gE:e9 F n.p (n.gE.flatMap LP.row)
 each: ∀x∈n.gE,x.at F
theorem NP.e8 {F F':Hp}(h:F.sub F'){n:NP}(k:n.at F):n.at F':=⟨eu h k.gE,fun x hx=>LP.e8 h (k.each x hx)⟩
def NP.none:NP:=⟨0,[],Option.none,0⟩
theorem NP.xk (F:Hp):NP.none.at F:=⟨eJ _ _,by simp[NP.none]⟩
def gG (n:NP):Int:=if n.now<0∨1000000000<n.now then 4 else if 60<n.gE.length then 7 else if (n.gE.any fun x=>decide (x.l.due≤n.now))=true then 4 else 0
theorem oT {n:NP}(h:gG n=0):0≤n.now∧n.now≤1000000000∧n.gE.length≤60:=by
 unfold gG at h;split at h
 ·cases h
 split at h
 ·cases h
 omega
def kf (k:Int):Bool:=decide (k<1)||decide (100<k)
def lG (n:NP)(fs:List Int):Int:=if gG n≠0 then gG n else if fs.any kf=true then 4 else if 60<n.gE.length+fs.length then 7 else 0
def mN.by (l:mN)(t:Int):mN:={ l with due:=t }
def Iu (n:NP)(l:mN)(fs:List Int):List mN:=n.gE.map LP.l++fs.map fun k=>l.by (n.now+k)
def Ja (n:NP)(l:mN)(fs:List Int)(x:Value)(F:Hp):Prop:=∃y:NP,x=pair y.v (i64 (lG n fs))∧y.at F∧y.gE.length≤4611686018427387904∧y.now=(if lG n fs=0 then n.now else 0)∧y.gE.map LP.l=if lG n fs=0 then Iu n l fs else []
def rD (n:NP):Int:=if gG n≠0 then gG n else if n.now=1000000000 then 9 else 0
def Lm (n:NP)(x:Value)(F:Hp):Prop:=∃(y:NP) (l:List LP) (p:Option Addr) (c:Nat),x=triple y.v (.slice p l.length c) (i64 (rD n))∧y.at F∧y.gE.length≤60∧l.length≤60∧e9 F p (l.flatMap LP.row)∧(∀x∈l,x.at F)∧y.now=(if rD n=0 then n.now+1 else 0)∧
 y.gE.map LP.l=(if rD n=0 then (n.gE.map LP.l).filter fun m=> !decide (m.due=n.now+1) else [])∧l.map LP.l=if rD n=0 then (n.gE.map LP.l).filter fun m=>decide (m.due=n.now+1) else []
end
section
open Go.TR
structure lW where
 kind:Int
 jc:Int
 n:Int
 at_:Int
@[reducible] def lW.row (x:lW):List Value:=[i64 x.kind,i64 x.jc,i64 x.n,i64 x.at_]
theorem nD (x:lW):x.row.length=4:=rfl
structure sW where
 kind:Int
 jc:Int
 value:List UInt8
 ej:List Int
 letter:mN
structure fr where
 dI:eI
 dN:List Ow
 polls:List Poll
 now:Int
 gE:List mN
 reach:Int
 ej:List (List Int)
 events:List lW
def fr.note (t:fr)(e:lW):fr:={ t with events:=t.events++[e] }
def fr.owned (t:fr)(k:Int):Bool:=decide (0≤k)&&decide (k<(t.dN.length:Int))
def fr.ow (t:fr)(k:Nat):Ow:=t.dN.getD k Ow.none
def fr.pl (t:fr)(k:Nat):Poll:=t.polls.getD k Poll.none
def fr.full (t:fr)(f:List Int):Bool:=f.any kf||decide (60<t.gE.length+f.length)
def fr.post (t:fr)(l:mN)(f:List Int):fr:=if t.full f=true then t else { t with gE:=t.gE++f.map fun k=>l.by (t.now+k) }
def fr.send (t:fr)(l:mN):fr:=match t.ej with
 | []=>t.post l [1]
 | f::r=>fr.post { t with ej:=r } l f
def fr.rf (t:fr)(jc:Int)(value:List UInt8):Bool:=t.owned jc&&decide (jv (t.ow jc.toNat) value=0)&&decide (oA t.dI (iL (t.ow jc.toNat) value)=0)
def fr.want (t:fr)(jc:Int)(value:List UInt8):fr:=
 if t.rf jc value=true then
  fr.note { t with dN:=t.dN.set jc.toNat (jR (t.ow jc.toNat) value),dI:=jm t.dI (iL (t.ow jc.toNat) value) } ⟨1,jc,((t.ow jc.toNat).wanted.length:Nat),pc t.dI (iL (t.ow jc.toNat) value)⟩
 else t
def ku (c:eI)(since:Int):Int:=max (min since ((c.dS.length:Int) - 1)) 0
def jC (c:eI)(since reach:Int):Int:=min (ku c since+reach - 1) ((c.dS.length:Int) - 1)
def fr.pd (t:fr)(l:mN):mN:=⟨l.from_,0,0,0,k7 t.dI (ku t.dI l.since) (jC t.dI l.since t.reach),pQ t.dI (t.ow l.from_.toNat).name (jC t.dI l.since t.reach),nu t.dI (t.ow l.from_.toNat).name (jC t.dI l.since t.reach)⟩
def fr.answer (t:fr)(l:mN):fr:=if t.owned l.from_=true then t.send (t.pd l) else t
def fr.GH (t:fr)(l:mN):Int:=EF (t.ow l.iP.toNat) l.dS l.head l.nL
def fr.seen (t:fr)(l:mN):Ow:=tL (t.ow l.iP.toNat) l.dS l.head l.nL
def fr.O6 (t:fr)(l:mN):fr:=fr.note { t with dN:=t.dN.set l.iP.toNat (t.seen l) } ⟨2,l.iP,t.GH l,(t.seen l).head.dZ⟩
def fr.IK (t:fr)(l:mN):fr:=if t.GH l=0∨t.GH l=1 then { t.O6 l with polls:=t.polls.set l.iP.toNat ((t.pl l.iP.toNat).heard t.dI.now) } else t.O6 l
def fr.Cr (t:fr)(k:Nat):mN:=⟨-1,(k:Nat),(t.ow k).head.dZ+1,0,[],Head.none,jo.none⟩
def fr.asked (t:fr)(k:Nat):fr:=fr.send { t with polls:=t.polls.set k ((t.pl k).mU t.dI.now) } (t.Cr k)
def fr.LX (t:fr)(k:Nat):Bool:=decide ((t.pl k).asked+1=(t.pl k).lost)
def fr.ask (t:fr)(k:Nat):fr:=
 if (t.pl k).lF t.dI.now=0 then (if t.LX k=true then (t.asked k).note ⟨3,(k:Nat),0,t.dI.now⟩ else t.asked k) else t
def fr.mO (t:fr)(l:mN):fr:=if l.iP<0 then t.answer l else t.IK l
def fr.next (t:fr):fr:={ t with dI:=fS t.dI,now:=t.now+1,gE:=t.gE.filter fun m=> !decide (m.due=t.now+1) }
def fr.due (t:fr):List mN:=t.gE.filter fun m=>decide (m.due=t.now+1)
def fr.comes (t:fr):List mN→fr:=fun l=>l.foldl fr.mO t
def fr.asks (t:fr)(n:Nat):fr:=(List.range n).foldl fr.ask t
def fr.tick (t:fr):fr:=if gu t.dI=true then t else (t.next.comes t.due).asks t.dN.length
def mN.for_ (l:mN)(k:Int):mN:={ l with iP:=k }
def fr.pX (t:fr)(d:sW):fr:=
 if d.kind=1 then t.want d.jc d.value
 else if d.kind=2 then { t with ej:=t.ej++[d.ej] }
 else if d.kind=3 then (if t.owned d.jc=true then t.post (d.letter.for_ d.jc) [1] else t)
 else if d.kind=4 then t.tick
 else t
def fr.oB (t:fr)(l:List sW):fr:=l.foldl fr.pX t
theorem Bt (t:fr){l:List sW}{k:Nat}(h:k<l.length):t.oB (l.take (k+1))=(t.oB (l.take k)).pX l[k]:=by
 unfold fr.oB;rw[al h,List.foldl_append];rfl
theorem yJ (t:fr){l:List mN}{k:Nat}(h:k<l.length):t.comes (l.take (k+1))=(t.comes (l.take k)).mO l[k]:=by
 unfold fr.comes;rw[al h,List.foldl_append];rfl
theorem nH (t:fr)(k:Nat):t.asks (k+1)=(t.asks k).ask k:=by
 unfold fr.asks;rw[List.range_succ,List.foldl_append];rfl
structure fr.Ok (t:fr) (n:Nat):Prop where
 dI:gh t.dI=0
 cwf:t.dI.wf
 n4:n≤4
 dN:t.dN.length=n
 own: ∀o∈t.dN,ki o=0∧o.wf
 polls:t.polls.length=n
 jO: ∀p∈t.polls,p.bad=false
 now:t.now=t.dI.now
 gE:t.gE.length≤60
 late: ∀l∈t.gE,t.now<l.due
 lwf: ∀l∈t.gE,l.wf
 iP: ∀l∈t.gE,l.iP<(n:Int)
 reach:1≤t.reach∧t.reach≤40
 ej: ∀f∈t.ej,f.length * 8≤140737488355328
end
section
open Go.TR
theorem B9 {l:List Entry}(hl: ∀x∈l,x.wf){asks:List Ask}(ha: ∀a∈asks,a.wf)(hs: ∀(k:Nat) (hk:k<asks.length),mW (kb l (asks.take k)) asks[k].name asks[k].value=0): ∀k,k≤asks.length→∀x∈kb l (asks.take k),x.wf
 | 0,_,x,hx=>hl x hx
 | k+1,hk,x,hx=>by
  rw[qC l (by omega:k<asks.length)]at hx;rcases (vf (hs k (by omega))).2 x hx with rfl | hx
  ·have:=ha _ (aj (by omega:k<asks.length));exact⟨this.name,this.value⟩
  exact B9 hl ha hs k (by omega) x hx
theorem yk {l:List Entry}(hl:l.length≤24){asks:List Ask}(hs: ∀(k:Nat) (hk:k<asks.length),mW (kb l (asks.take k)) asks[k].name asks[k].value=0): ∀k,k≤asks.length→(kb l (asks.take k)).length≤24
 | 0,_=>hl
 | k+1,hk=>by
  rw[qC l (by omega:k<asks.length)];exact (fP (vf (hs k (by omega))).1).1
theorem zO {α:Type}(l:List α)(n:Nat):l.take (min n l.length)=l.take n∧l.drop (min n l.length)=l.drop n:=by
 by_cases h:n≤l.length
 ·rw[Nat.min_eq_left h];exact⟨rfl,rfl⟩
 rw[Nat.min_eq_right (by omega),aD,cg,an (by omega),cd (by omega)];exact⟨rfl,rfl⟩
theorem GC {c:eI}(hG:Good c):pN c.queue c.batch=0∧sJ c.queue c.batch=⟨c.queue.most,c.queue.wait.drop c.batch.toNat⟩∧wR c.queue c.batch=fY c:=by
 have:=hG.times;have e:pN c.queue c.batch=0:=by unfold pN;rw[aZ hG.queue,aY (by omega)]
 refine⟨e,?_,?_⟩
 ·unfold sJ lQ;rw[aZ e,(zO _ _).2]
 unfold wR lQ fY;rw[aZ e,(zO _ _).1]
theorem NF {c:eI}(h:gh c≠0):fS c=eI.none∧rQ c=false:=by
 unfold fS rQ;rw[aZ h,aX h];exact⟨rfl,rfl⟩
theorem nk {c:eI}(h:gh c=0)(h1:gu c=true):fS c=c∧rQ c=false:=by
 unfold fS rQ Gr;rw[aY (by rw[h];decide),aZ h1,h1];exact⟨rfl,by simp⟩
theorem pR {c:eI}(h:gh c=0)(h1:gu c=false)(h2:(c.now+1) % c.every≠0):fS c={ c with now:=c.now+1 }∧rQ c=false:=by
 have hd:Gr c=false:=by unfold Gr;rw[h1,aX h2];rfl
 unfold fS rQ;rw[aY (by rw[h];decide),h1,hd];exact⟨rfl,by simp⟩
theorem rr {c:eI}(h:gh c=0)(h1:gu c=false)(h2:(c.now+1) % c.every=0):fS c=⟨⟨c.queue.most,c.queue.wait.drop c.batch.toNat⟩,c.batch,c.every,c.now+1,c.dS++[kQ c],c.ez++[gb c]⟩∧rQ c=true:=by
 have hd:Gr c=true:=by unfold Gr;rw[h1,aW h2];rfl
 unfold fS rQ;rw[aY (by rw[h];decide),h1,hd,h];exact⟨rfl,by simp⟩
theorem Jv (c:eI)(n:Int):gK { c with now:=n }=gK c:=rfl
theorem sg (c:eI):gb c=kb (gK c) (fY c):=rfl
theorem qa (l:List Entry)(a:List Ask):kb l (a.take 0)=l:=rfl
theorem zw (c:eI):kQ c=⟨(fL c.dS).dZ+1,gN (gb c) [],(fL c.dS).mark,c.now+1⟩:=rfl
attribute [local irreducible] vc dW gz fg fD gF gJ gB fJ Plain eD eX dK VS fv fA fG jt fh IntKind.wrap
attribute [local irreducible] dY gN iu gK fL gh fj fu jG jI eR gu kb fY gb kQ kx mW
set_option maxRecDepth 100000
set_option maxHeartbeats 4000000
theorem CP (c:eI)(l:ji)(hw:c.wf){F:Hp}(ha:c.at F l):iy Tryz.prog F 11 [c.v l] (fun y F'=>∃l',y=triple ((fS c).v l') (.bool (rQ c)) (i64 (gh c))∧(fS c).at F' l'):=by
 refine eD.drop (fW (N:=88) (rv:=[.cell 2 28,.tmp 3,.tmp 4]) eW mixed Tryz.func11 rfl rfl rfl rfl rfl ?_);(refine run ?_;repeat intro b);rename_i bY;revert b;intro bX;refine dJ _ rfl rfl rfl OI rfl (m0 c l hw ha) ?_;(refine run ?_;repeat intro b);refine eE (decide (gh c≠0)) ?_ (fun h0=>?_) (fun h0=>?_)
 ·refine dV ?_;rw[ai];simp
 ·obtain⟨e1,e2⟩:=NF (ar h0);rw[e1,e2];(refine run ?_;repeat intro b);exact eU (VS.id ⟨_,rfl,ji.nil,rfl,eI.kH _⟩)
 have h0:gh c=0:=by have:=au h0;omega
 have hG:=nh h0;have hS:=hG.small;obtain⟨q1,q2,q3,_⟩:=lf hG.queue;obtain⟨t1,t2,t3,t4,t5,t6⟩:=hG.times;have hlen:=hG.lens;rw[h0];(refine run ?_;repeat intro b);refine fm rfl rfl rfl Tv rfl (xX c l hw hS ha) ?_;rintro _ F1 hF1 ⟨l1,rfl,ha1,Y5⟩;(refine run ?_;repeat intro b);refine dJ _ rfl rfl rfl Sh rfl (vR c l1 F1) ?_;(refine run ?_;repeat intro b);refine eE (gu c) rfl (fun h1=>?_) (fun h1=>?_)
 ·obtain⟨e1,e2⟩:=nk h0 h1;rw[e1,e2];(refine run ?_;repeat intro b);exact eU (VS.id ⟨_,rfl,l1,rfl,ha1⟩)
 (refine run ?_;repeat intro b);rw[wrap_i64 (n:=c.now+1) (by omega) (by omega)];(refine run ?_;repeat intro b);refine dL rfl rfl rfl (by omega) ?_;rw[qY (by omega)];(refine run ?_;repeat intro b);refine eE (decide ((c.now+1) % c.every≠0)) ?_ (fun h2=>?_) (fun h2=>?_)
 ·refine dV ?_;rw[ai];simp
 ·obtain⟨e1,e2⟩:=pR h0 h1 (ar h2);rw[e1,e2];(refine run ?_;repeat intro b);exact eU (VS.id ⟨_,rfl,l1,rfl,ha1.w,ha1.cw,ha1.h,ha1.ch,ha1.cb,ha1.b⟩)
 have h2:(c.now+1) % c.every=0:=by have:=au h2;omega
 obtain⟨e1,e2⟩:=rr h0 h1 h2;obtain⟨k1,k2,k3⟩:=GC hG;obtain⟨g1,g2,g3⟩:=hG.R8;obtain⟨bs,hb,wZ,hbs⟩:=ha1.b;have hsm:=hG.last;have Tc:=(hw.ez _ (mV (c:=c) (by omega))).2;have tD:=(fP hG.last).1;have haw: ∀a∈fY c,a.wf:=fun a h=>hw.queue.wait a (by unfold fY at h;exact cY h);have hsw:=B9 Tc haw g3;have hss:=yk tD g3;have htl:(fY c).length≤30:=by unfold fY;rw[aw];omega
 rw[e1,e2];(refine run ?_;repeat intro b);refine fm rfl rfl rfl Xt rfl (B1 c.queue c.batch hw.queue ha1.cw ha1.w) ?_;rintro _ F2 hF2 ⟨pq,cq,pa,ca,rfl,Y6,hfa,hcq⟩;rw[k1,k2,k3];rw[k2]at Y6 hcq;rw[k3]at hfa;(refine run ?_;repeat intro b);obtain⟨⟨ps,ls,cs⟩,s1,s2,s3⟩:=Ih { c with now:=c.now+1 } l1 bs (show 0<c.ez.length by omega) hw.OS hb (eu hF2 wZ);have hat:=Bk.e8 hF2 (hbs _ s1);rw[Jv]at s2;simp only at s2 hat;subst s2;refine dJ _ rfl rfl rfl UY rfl s3 ?_;(refine run ?_;repeat intro b);refine fm rfl rfl rfl D6 rfl (eD.Mu (fun h=>by rw[aq h];rfl) (mg ((gK c).flatMap Entry.row) (gK c).length (dO eM _) hat.2 (iN _) (by omega))) ?_;rintro _ F3 FX ⟨p3,c3,rfl,hc3,hf3⟩;have Y7:=eu FX hfa;(refine run ?_;repeat intro b);revert b;intro bR;rw[show (gK c).length=(kb (gK c) ((fY c).take 0)).length from by rw[qa]];refine eY (fun q:Nat×(Option Addr×Nat)×Hp=>q.1≤(fY c).length∧F3.sub q.2.2∧e9 q.2.2 q.2.1.1 ((kb (gK c) ((fY c).take q.1)).flatMap Entry.row))
  (fun q=>⟨[(1,.loc 0 0),(2,.loc 1 0),(6,.loc 2 0),(9,.v (.slice q.2.1.1 (kb (gK c) ((fY c).take q.1)).length q.2.1.2)),(48,.v (.slice pa (fY c).length ca)),(49,.v (i64 ((fY c).length:Nat))),(50,.v (i64 (q.1:Nat)))],q.2.2,
   [(2,⟨some bR,[.v (i64 c.queue.most),.v (.slice pq (c.queue.wait.drop c.batch.toNat).length cq)],24,2⟩),
    (1,⟨some bX,[.v (i64 0),.v (.slice none 0 0),.v (i64 0),.v (i64 0),.v (i64 0),.v (.slice none 0 0),.v (.slice none 0 0)],28,7⟩),
    (0,⟨some bY,[.v (i64 c.queue.most),.v (.slice l1.w c.queue.wait.length l1.cw),.v (i64 c.batch),.v (i64 c.every),.v (i64 (c.now+1)),.v (.slice l1.h c.dS.length l1.ch),.v (.slice l1.b c.ez.length l1.cb)],28,7⟩)],3⟩)
  (fun q=>(fY c).length - q.1) (0,(p3,c3),F3) ⟨az _,fun _ _ h=>h,by dsimp only;rw[qa];exact hf3⟩ (VS.eL [1,2,6,9,48,49,50] rfl rfl) ?_
 rintro⟨k,⟨p4,c4⟩,G⟩ ⟨hk,hG3,zX⟩;dsimp only at hk hG3 zX ⊢;have WO:=eu hG3 Y7;by_cases hlt:k<(fY c).length
 ·obtain⟨o1,o2⟩:=fa gn (by decide) WO k hlt;have e0:=g3 k hlt;have w0:=hsw k hk;have l0:=hss k hk;have wa:=haw _ (aj hlt);have st:=qC (gK c) hlt;generalize (fY c)[k]=ak at *;have hset:=Gg (kb (gK c) ((fY c).take k)) ak.name ak.value (by omega) w0 wa.name (c:=c4) zX;have eo:xc (kb (gK c) ((fY c).take k)) ak.name ak.value=kb (gK c) ((fY c).take (k+1)):=by unfold xc;rw[aZ e0,st]
  rw[e0,eo]at hset;(refine run ?_;repeat intro b);refine gw rfl (by omega) ?_;(refine run ?_;repeat intro b);refine dL rfl rfl rfl ⟨by omega,by omega,dR WO (j:=k * 4) (by rw[dO gn];omega)⟩ ?_;refine fB ak.cells rfl rfl rfl rfl rfl (by rw[ae];exact o1) (by rw[ae];exact o2) ?_;(refine run ?_;repeat intro b);refine fm rfl rfl rfl Yp rfl hset ?_;rintro _ G2 hG2 ⟨p5,c5,rfl,FU⟩;(refine run ?_;repeat intro b);rw[dT (by omega)];exact iK (k+1,(p5,c5),G2) [3] [1,2,6,9,48,49,50] ⟨hlt,hG3.trans hG2,FU⟩ (by simp only;omega) rfl rfl rfl rfl ⟨⟨(show 2<3 by decide),fun e he=>lr [_,_] e he⟩,⟨(show 1<3 by decide),fun e he=>lr [_,_,_,_,_,_,_] e he⟩,⟨(show 0<3 by decide),fun e he=>lr [_,_,_,_,_,_,_] e he⟩,trivial⟩ rfl
 have hge:k=(fY c).length:=by omega
 rw[hge,aD,←sg]at zX;have hl4:=hss k hk;have hw4:=hsw k hk;rw[hge,aD,←sg]at hl4 hw4;rw[hge,aD,←sg];have r0:=ry (gb c) (by omega) hw4 (c:=c4) zX;obtain⟨r1,r2⟩:=tP g1 ru;rw[r1,r2]at r0;(refine run ?_;repeat intro b);refine gy rfl (by omega) ?_;(refine run ?_;repeat intro b);refine dJ _ rfl rfl rfl RB rfl r0 ?_;(refine run ?_;repeat intro b);have WQ:=eu (hF2.trans (FX.trans hG3)) wZ;have hbl:=lC hb;obtain⟨hn1,hn2,hn3,Su⟩:=hG.next h1 (root:=gN (gb c) []) (uC _ _);rw[←zw]at Su;rw[Y5];refine fC [2] (by kernel_rfl) ?_;refine dU [0,1,3] (f':=7) (by kernel_rfl) rfl rfl rfl ?_;(refine run ?_;repeat intro b);refine jF 2 4 (by kernel_rfl) rfl rfl rfl ?_ ?_
 ·(refine run ?_;repeat intro b);refine eG (Hp.sub.refl _) (dP rfl) ?_;refine dU [6] (f':=5) (by kernel_rfl) rfl rfl rfl ?_;(refine run ?_;repeat intro b);refine ee 4 (by kernel_rfl) rfl rfl ?_;(refine run ?_;repeat intro b);refine eG (Hp.sub.refl _) (dP rfl) ?_;refine ee 5 (by kernel_rfl) rfl rfl ?_;refine jA (bs.map Bk.v) rfl rfl rfl rfl rfl rfl (by rw[ab,hbl];exact (aA _).symm) WQ (ff rfl rfl) (fun e he=>by rw[aB.1 he];exact⟨rfl,_,rfl⟩) (by show _ * 24≤_;omega) (fun h=>by cases h) (fun _ b2 c2 hc2=>?_);(refine run ?_;repeat intro b);refine eG (Hp.sub.refl _) (dP rfl) ?_;refine ee 7 (by kernel_rfl) rfl rfl ?_;(refine run ?_;repeat intro b);refine eG (Hp.sub.refl _) (dP rfl) ?_;refine dU [8] (f':=1) (by kernel_rfl) rfl rfl rfl ?_;(refine run ?_;repeat intro b);refine ee 9 (by kernel_rfl) rfl rfl ?_;(refine run ?_;repeat intro b);refine eG (Hp.sub.refl _) (dP rfl) ?_;refine fq (by kernel_rfl) ?_;(refine run ?_;repeat intro b);have hcells:(bs.map Bk.v).map EV.v++[EV.v (Bk.v (p4,gb c,c4))]=((bs++[(p4,gb c,c4)]).map Bk.v).map EV.v:=by simp
  refine fX (VS.freeze 4 [1,2,12,79,80,82] rfl ((a8 (iZ _) hcells).trans (eH _)) rfl rfl fun G5 hs5 FU=>VS.id ?_);(refine run ?_;repeat intro b);have hl5:=eu (hF2.trans (FX.trans (hG3.trans hs5))) ha1.h;have hgr:=tX c.dS (gN (gb c) []) (c.now+1) (by omega) hw.dS (c:=l1.ch) hl5;rw[hn3,Su]at hgr;refine fm rfl rfl rfl Vg rfl hgr ?_;rintro _ G6 P7 ⟨p6,c6,rfl,hc6,OB⟩;(refine run ?_;repeat intro b);refine eU (VS.id ⟨_,rfl,⟨pq,cq,p6,c6,some ⟨b2,0,none⟩,c2⟩,?_,eu (FX.trans (hG3.trans (hs5.trans P7))) Y6,hcq,OB,hc6,by rw[ag];exact hc2,bs++[(p4,gb c,c4)],by rw[aF,hb];rfl,eu P7 FU,fun s hs=>?_⟩)
  ·simp only[eI.v,ag];rfl
  rcases aK.1 hs with hs | hs
  ·exact Bk.e8 (hF2.trans (FX.trans (hG3.trans (hs5.trans P7)))) (hbs s hs)
  rw[aB.1 hs];exact⟨trivial,eu (hs5.trans P7) zX⟩
 (refine run ?_;repeat intro b);refine eG (Hp.sub.refl _) (dP rfl) ?_;refine ee 2 (by kernel_rfl) rfl rfl ?_;(refine run ?_;repeat intro b);refine eG (Hp.sub.refl _) (dP rfl) ?_;refine dU [6] (f':=4) (by kernel_rfl) rfl rfl rfl ?_;(refine run ?_;repeat intro b);refine ee 5 (by kernel_rfl) rfl rfl ?_;refine jA (bs.map Bk.v) rfl rfl rfl rfl rfl rfl (by rw[ab,hbl];exact (aA _).symm) WQ (ff rfl rfl) (fun e he=>by rw[aB.1 he];exact⟨rfl,_,rfl⟩) (by show _ * 24≤_;omega) (fun h=>by cases h) (fun _ b2 c2 hc2=>?_);(refine run ?_;repeat intro b);refine eG (Hp.sub.refl _) (dP rfl) ?_;refine ee 7 (by kernel_rfl) rfl rfl ?_;(refine run ?_;repeat intro b);refine eG (Hp.sub.refl _) (dP rfl) ?_;refine dU [8] (f':=1) (by kernel_rfl) rfl rfl rfl ?_;(refine run ?_;repeat intro b);refine ee 9 (by kernel_rfl) rfl rfl ?_;(refine run ?_;repeat intro b);refine eG (Hp.sub.refl _) (dP rfl) ?_;refine fq (by kernel_rfl) ?_;(refine run ?_;repeat intro b);have hcells:(bs.map Bk.v).map EV.v++[EV.v (Bk.v (p4,gb c,c4))]=((bs++[(p4,gb c,c4)]).map Bk.v).map EV.v:=by simp
 refine fX (VS.freeze 4 [1,2,12,79,80,82] rfl ((a8 (iZ _) hcells).trans (eH _)) rfl rfl fun G5 hs5 FU=>VS.id ?_);(refine run ?_;repeat intro b);have hl5:=eu (hF2.trans (FX.trans (hG3.trans hs5))) ha1.h;have hgr:=tX c.dS (gN (gb c) []) (c.now+1) (by omega) hw.dS (c:=l1.ch) hl5;rw[hn3,Su]at hgr;refine fm rfl rfl rfl Vg rfl hgr ?_;rintro _ G6 P7 ⟨p6,c6,rfl,hc6,OB⟩;(refine run ?_;repeat intro b);refine eU (VS.id ⟨_,rfl,⟨pq,cq,p6,c6,some ⟨b2,0,none⟩,c2⟩,?_,eu (FX.trans (hG3.trans (hs5.trans P7))) Y6,hcq,OB,hc6,by rw[ag];exact hc2,bs++[(p4,gb c,c4)],by rw[aF,hb];rfl,eu P7 FU,fun s hs=>?_⟩)
 ·simp only[eI.v,ag];rfl
 rcases aK.1 hs with hs | hs
 ·exact Bk.e8 (hF2.trans (FX.trans (hG3.trans (hs5.trans P7)))) (hbs s hs)
 rw[aB.1 hs];exact⟨trivial,eu (hs5.trans P7) zX⟩
end
end Go.Proofs.YthbnddgjkonkdaaGreatDoor
