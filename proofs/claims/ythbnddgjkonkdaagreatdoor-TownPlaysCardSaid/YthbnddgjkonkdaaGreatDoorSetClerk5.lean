/- A part of the proof. -/
import Derived.Test.YthbnddgjkonkdaaGreatDoorSetOwner5
set_option linter.unusedVariables false
set_option linter.unusedSimpArgs false
namespace Go.Proofs.YthbnddgjkonkdaaGreatDoor
section
open Go.TR
attribute [local irreducible] vc dT gx fc fA gC gG gw fG Plain eu eR dH VS fq fx fD ju fe IntKind.wrap
set_option maxHeartbeats 4000000
structure Poll where
 least:Int
 most:Int
 lost:Int
 nE:Int
 next:Int
 asked:Int
@[reducible] def Poll.v (p:Poll):Value:=.agg #[.int .i64 p.least,.int .i64 p.most,.int .i64 p.lost,.int .i64 p.nE,.int .i64 p.next,.int .i64 p.asked]
def Poll.bad (p:Poll):Bool:=decide (p.least<1)||decide (p.most<p.least)||decide (1000<p.most)||decide (p.lost<1)||decide (100<p.lost)||decide (p.nE<p.least)||decide (p.most<p.nE)||decide (p.next<0)||decide (1000000000<p.next)||decide (p.asked<0)||decide (1000000<p.asked)
def Poll.fault (p:Poll):Int:=if p.bad then 4 else 0
set_option maxRecDepth 100000 in
theorem s6 (p:Poll)(F:Hp):Plain Tryz.prog F 165 [p.v] (i64 p.fault):=by
 refine dN (N:=62) (rv:=[.tmp 2]) eP mixed Tryz.func165 rfl rfl rfl rfl rfl ?_;(refine run ?_;repeat intro b);refine ez _ rfl (fun h=>?_) (fun h=>?_)
 all_goals
  (refine run ?_;repeat intro b);simp only[fu]at h;simp only[gE,Poll.fault,Poll.bad,h];rfl
def Poll.kv (p:Poll)(now:Int):Int:=if p.bad then 4 else if now<0∨1000000000<now then 4 else 0
theorem Poll.nM (p:Poll):(p.fault==0)= !p.bad:=by unfold Poll.fault;cases p.bad<;>rfl
set_option maxRecDepth 100000 in
theorem v7 (p:Poll)(now:Int)(F:Hp):Plain Tryz.prog F 277 [p.v,i64 now] (i64 (p.kv now)):=by
 refine dN (N:=19) (rv:=[.tmp 4]) eP mixed Tryz.func277 rfl rfl rfl rfl rfl ?_;(refine run ?_;repeat intro b);refine dG (i64 p.fault) rfl rfl rfl NW rfl (s6 p F) ?_;(refine run ?_;repeat intro b);refine ez _ rfl (fun h=>?_) (fun h=>?_)
 all_goals
  (refine run ?_;repeat intro b);simp only[fu,fH,Poll.nM]at h;simp only[gE,Poll.kv,Poll.fault];cases hb:p.bad<;>simp_all
def Poll.none:Poll:=⟨0,0,0,0,0,0⟩
def Poll.fresh (least most lost:Int):Poll:=⟨least,most,lost,least,0,0⟩
def Poll.hU (p:Poll)(e:Int):Poll:=if e≠0 then Poll.none else p
theorem Nk (p:Poll):(p.fault != 0)=p.bad:=by unfold Poll.fault;cases p.bad<;>rfl
set_option maxRecDepth 100000 in
theorem NA (least most lost:Int)(F:Hp):Plain Tryz.prog F 109 [i64 least,i64 most,i64 lost] (pair ((Poll.fresh least most lost).hU (Poll.fresh least most lost).fault).v (i64 (Poll.fresh least most lost).fault)):=by
 refine dN (N:=22) (rv:=[.cell 6 159,.tmp 7]) eP mixed Tryz.func109 rfl rfl rfl rfl rfl ?_;(refine run ?_;repeat intro b);refine dG (i64 (Poll.fresh least most lost).fault) rfl rfl rfl NW rfl (s6 (Poll.fresh least most lost) F) ?_;(refine run ?_;repeat intro b);refine ez _ rfl (fun h=>?_) (fun h=>?_)
 ·(refine run ?_;repeat intro b);have h':(Poll.fresh least most lost).fault≠0:=by simpa using h
  simp only[Poll.hU,h',ne_eq,not_false_eq_true,dC];rfl
 (refine run ?_;repeat intro b);have h':(Poll.fresh least most lost).fault=0:=by simpa using h
 simp only[Poll.hU,h',ne_eq,dD,dB];rfl
def Poll.zK (p:Poll)(now:Int):Bool:=(p.kv now==0)&&decide (p.next≤now)
set_option maxRecDepth 100000 in
theorem MD (p:Poll)(now:Int)(F:Hp):Plain Tryz.prog F 279 [p.v,i64 now] (pair (.bool (p.zK now)) (i64 (p.kv now))):=by
 refine dN (N:=19) (rv:=[.tmp 4,.tmp 5]) eP mixed Tryz.func279 rfl rfl rfl rfl rfl ?_;(refine run ?_;repeat intro b);refine dG (i64 (p.kv now)) rfl rfl rfl Qp rfl (v7 p now F) ?_;(refine run ?_;repeat intro b);simp only[fH,gE,Poll.zK]
set_option maxRecDepth 100000 in
theorem AD (p:Poll)(F:Hp):Plain Tryz.prog F 240 [p.v] (pair (.bool (!p.bad&&decide (p.lost≤p.asked))) (i64 p.fault)):=by
 refine dN (N:=17) (rv:=[.tmp 2,.tmp 3]) eP mixed Tryz.func240 rfl rfl rfl rfl rfl ?_;(refine run ?_;repeat intro b);refine dG (i64 p.fault) rfl rfl rfl NW rfl (s6 p F) ?_;(refine run ?_;repeat intro b);simp only[fH,gE,Poll.nM]
def later (now n:Int):Int:=if 1000000000<IntKind.i64.wrap (now+n) then 1000000000 else IntKind.i64.wrap (now+n)
set_option maxRecDepth 100000 in
theorem zt (now n:Int)(F:Hp):Plain Tryz.prog F 278 [i64 now,i64 n] (i64 (later now n)):=by
 refine dN (N:=9) (rv:=[.tmp 4]) eP mixed Tryz.func278 rfl rfl rfl rfl rfl ?_;(refine run ?_;repeat intro b);rfl
def min2 (x y:Int):Int:=if y<x then y else x
def Poll.heard (p:Poll)(now:Int):Poll:={ p with asked:=0,nE:=p.least,next:=min2 p.next (later now p.least) }
set_option maxRecDepth 100000 in
theorem GJ (p:Poll)(now:Int)(F:Hp):Plain Tryz.prog F 238 [p.v,i64 now] (pair ((p.heard now).hU (p.kv now)).v (i64 (p.kv now))):=by
 refine dN (N:=27) (rv:=[.cell 4 159,.tmp 5]) eP mixed Tryz.func238 rfl rfl rfl rfl rfl ?_;(refine run ?_;repeat intro b);refine dG (i64 (p.kv now)) rfl rfl rfl Qp rfl (v7 p now F) ?_;(refine run ?_;repeat intro b);refine ez _ rfl (fun h=>?_) (fun h=>?_)
 ·(refine run ?_;repeat intro b);have h':p.kv now≠0:=by simpa using h
  simp only[Poll.hU,h',ne_eq,not_false_eq_true,dC];rfl
 (refine run ?_;repeat intro b);have h':p.kv now=0:=by simpa using h
 refine jK 8 (by kernel_rfl) rfl rfl ?_;(refine run ?_;repeat intro b);refine dG (i64 (later now p.least)) rfl rfl rfl Qh rfl (zt now p.least F) ?_;(refine run ?_;repeat intro b);simp only[Poll.hU,h',ne_eq,dD,dB];rfl
def Poll.mP (p:Poll)(now:Int):Poll:={ p with asked:=IntKind.i64.wrap (p.asked+1),next:=later now p.nE,nE:=min2 (IntKind.i64.wrap (2 * p.nE)) p.most }
def Poll.lC (p:Poll)(now:Int):Int:=if p.kv now≠0 then p.kv now else if p.zK now=false then 9 else if p.asked=1000000 then 7 else 0
set_option maxRecDepth 100000 in
theorem AQ (p:Poll)(now:Int)(F:Hp):Plain Tryz.prog F 239 [p.v,i64 now] (pair ((p.mP now).hU (p.lC now)).v (i64 (p.lC now))):=by
 refine dN (N:=45) (rv:=[.cell 4 159,.tmp 5]) eP mixed Tryz.func239 rfl rfl rfl rfl rfl ?_;(refine run ?_;repeat intro b);refine dG (pair (.bool (p.zK now)) (i64 (p.kv now))) rfl rfl rfl Uk rfl (MD p now F) ?_;(refine run ?_;repeat intro b);refine ez _ rfl (fun h=>?_) (fun h=>?_)
 ·(refine run ?_;repeat intro b);have h':p.kv now≠0:=by simpa using h
  simp only[Poll.hU,Poll.lC,h',ne_eq,not_false_eq_true,dC];rfl
 (refine run ?_;repeat intro b);have h':p.kv now=0:=by simpa using h
 refine ez _ rfl (fun h2=>?_) (fun h2=>?_)
 ·(refine run ?_;repeat intro b);have h2':p.zK now=false:=by simpa using h2
  simp only[Poll.hU,Poll.lC,h',h2',ne_eq,dD,dC,dB];rfl
 (refine run ?_;repeat intro b);have h2':p.zK now=true:=by simpa using h2
 refine ez _ rfl (fun h3=>?_) (fun h3=>?_)
 ·(refine run ?_;repeat intro b);have h3':p.asked=1000000:=by simpa using h3
  simp only[Poll.hU,Poll.lC,h',h2',h3',ne_eq,dD,dC,dB,Bool.true_eq_false];rfl
 (refine run ?_;repeat intro b);have h3': ¬p.asked=1000000:=by simpa using h3
 refine dG (i64 (later now p.nE)) rfl rfl rfl Qh rfl (zt now p.nE F) ?_;(refine run ?_;repeat intro b);simp only[Poll.hU,Poll.lC,h',h2',h3',ne_eq,dD,dB,Bool.true_eq_false];rfl
def Poll.UE (p:Poll)(now:Int):Poll:={ p with asked:=0,nE:=p.least,next:=min2 p.next (later now p.least) }
set_option maxRecDepth 100000 in
theorem J4 (p:Poll)(now:Int)(F:Hp):Plain Tryz.prog F 77 [p.v,i64 now] (p.heard now).v:=by
 refine dN (N:=23) (rv:=[.cell 4 159]) eP mixed Tryz.func77 rfl rfl rfl rfl rfl ?_;(refine run ?_;repeat intro b);refine ez _ rfl (fun h=>?_) (fun h=>?_)
 all_goals
  (refine run ?_;repeat intro b);refine ez _ rfl (fun h2=>?_) (fun h2=>?_)
  all_goals
   (refine run ?_;repeat intro b);simp only[av,aU]at h h2;simp only[Poll.heard,later,min2,h,h2,dC,dB];rfl
def steps (now:Int)(k:Nat):Int:=if 1000000000≤now then now else if 1000000000≤now+k then 1000000000 else now+k
theorem Gj (now:Int)(k:Nat):steps now (k+1)=if steps now k<1000000000 then steps now k+1 else steps now k:=by
 unfold steps
 repeat' split
 all_goals omega
theorem MP (now:Int)(k:Nat)(h:0≤now∧now≤1000000000):0≤steps now k∧steps now k≤1000000000:=by
 unfold steps
 repeat' split
 all_goals omega
theorem HR (now:Int):steps now 0=now:=by
 unfold steps
 repeat' split
 all_goals omega
def Poll.xj (p:Poll)(now:Int):Poll:={ p with asked:=IntKind.i64.wrap (p.asked+1),next:=steps now p.nE.toNat,nE:=if p.most<IntKind.i64.wrap (p.nE+p.nE) then p.most else IntKind.i64.wrap (p.nE+p.nE) }
set_option maxRecDepth 100000 in
theorem MB (p:Poll)(now:Int)(F:Hp)(hg:p.nE≤1000000)(hn:0≤now∧now≤1000000000):Plain Tryz.prog F 79 [p.v,i64 now] (p.xj now).v:=by
 refine dN (N:=38) (rv:=[.cell 4 159]) eP mixed Tryz.func79 rfl rfl rfl rfl rfl ?_;(refine run ?_;repeat intro b);rename_i b0;refine Mb (T:=fun k:{ k:Nat // (k:Int)≤p.nE∨k=0 }=>⟨[(2,.loc 0 0),(4,.loc 1 0),(12,.v (i64 p.nE)),(13,.v (i64 (k.1:Nat)))],F,
  [(1,⟨some b,[.v (i64 0),.v (i64 0),.v (i64 0),.v (i64 0),.v (i64 0),.v (i64 0)],159,6⟩),(0,⟨some b0,[.v (i64 p.least),.v (i64 p.most),.v (i64 p.lost),.v (i64 p.nE),.v (i64 (steps now k.1)),.v (i64 (IntKind.i64.wrap (p.asked+1)))],159,6⟩)],2⟩)
  (fun k=>p.nE.toNat - k.1) ⟨0,.inr rfl⟩ ?_ ?_
 ·refine VS.C2 [2,4,12,13] rfl ?_;simp only[HR now];rfl
 rintro⟨k,hk⟩;have hs:=MP now k hn;(refine run ?_;repeat intro b);refine ez _ rfl (fun h=>?_) (fun h=>?_)
 ·simp only[av]at h;(refine run ?_;repeat intro b);refine ez _ rfl (fun h2=>?_) (fun h2=>?_)
  all_goals
   simp only[av,aU]at h2;(refine run ?_;repeat intro b);refine PB ⟨k+1,.inl (by omega)⟩ (by simp only;omega) (VS.C2 [2,4,12,13] rfl ?_);have e:=Gj now k;rw[wrap_i64 (n:=(k:Int)+1) (by omega) (by omega)]
  ·rw[aZ h2]at e;rw[wrap_i64 (n:=steps now k+1) (by omega) (by omega),←e];rfl
  rw[aY h2]at e;rw[←e];rfl
 simp only[aU]at h;(refine run ?_;repeat intro b);have hkg:k=p.nE.toNat:=by omega
 subst hkg;refine ez _ rfl (fun h2=>?_) (fun h2=>?_)
 all_goals
  (refine run ?_;repeat intro b);simp only[av,aU]at h2;simp only[Poll.xj,h2,dC,dB];rfl
end
section
open Go.TR
structure mJ where
 iM:Int
 from_:Int
 since:Int
 due:Int
 dP:List Head
 head:Head
 nJ:jn
structure LP where
 l:mJ
 ph:Option Addr
 ch:Nat
 a:Lay
@[reducible] def LP.row (x:LP):List Value:=[i64 x.l.iM,i64 x.l.from_,i64 x.l.since,i64 x.l.due,.slice x.ph x.l.dP.length x.ch,i64 x.l.head.dW,u64 (x.l.head.root:Nat),u64 (x.l.head.prev:Nat),i64 x.l.head.at_,S x.l.nJ.name,.slice x.a.e x.l.nJ.fZ.length x.a.ce,.slice x.a.s x.l.nJ.fC.length x.a.cs]
theorem je (x:LP):x.row.length=12:=rfl
theorem qe (l:List LP): ∀x∈l.flatMap LP.row,one (.v x)=true:=fun x hx=>by
 obtain⟨a,_,ha⟩:=List.mem_flatMap.1 hx;simp only[LP.row,aT,cZ,dE]at ha;rcases ha with rfl | rfl | rfl | rfl | rfl | rfl | rfl | rfl | rfl | rfl | rfl | rfl<;>rfl
structure mJ.wf (l:mJ):Prop where
 dP:l.dP.length * 32≤140737488355328
 each: ∀x∈l.dP,x.wf
 head:l.head.wf
 nJ:l.nJ.wf
 fZ:l.nJ.fZ.length * 32≤140737488355328
 fC:l.nJ.fC.length * 8≤140737488355328
structure LP.at (F:Hp) (x:LP):Prop where
 dP:eY F x.ph (x.l.dP.flatMap Head.row)
 nJ:x.l.nJ.at F x.a
theorem LP.eX {F F':Hp}(h:F.sub F'){x:LP}(k:x.at F):x.at F':=⟨dZ h k.dP,jn.eX h k.nJ⟩
structure NP where
 now:Int
 gz:List LP
 p:Option Addr
 c:Nat
@[reducible] def NP.v (n:NP):Value:=.agg #[i64 n.now,.slice n.p n.gz.length n.c]
structure NP.at (F:Hp) (n:NP):Prop where
 gz:eY F n.p (n.gz.flatMap LP.row)
 each: ∀x∈n.gz,x.at F
theorem NP.eX {F F':Hp}(h:F.sub F'){n:NP}(k:n.at F):n.at F':=⟨dZ h k.gz,fun x hx=>LP.eX h (k.each x hx)⟩
def NP.none:NP:=⟨0,[],Option.none,0⟩
theorem NP.xr (F:Hp):NP.none.at F:=⟨eG _ _,by simp[NP.none]⟩
def gD (n:NP):Int:=if n.now<0∨1000000000<n.now then 4 else if 60<n.gz.length then 7 else if (n.gz.any fun x=>decide (x.l.due≤n.now))=true then 4 else 0
theorem oR {n:NP}(h:gD n=0):0≤n.now∧n.now≤1000000000∧n.gz.length≤60:=by
 unfold gD at h;split at h
 ·cases h
 split at h
 ·cases h
 omega
def jZ (k:Int):Bool:=decide (k<1)||decide (100<k)
def lD (n:NP)(fs:List Int):Int:=if gD n≠0 then gD n else if fs.any jZ=true then 4 else if 60<n.gz.length+fs.length then 7 else 0
def mJ.by (l:mJ)(t:Int):mJ:={ l with due:=t }
def I5 (n:NP)(l:mJ)(fs:List Int):List mJ:=n.gz.map LP.l++fs.map fun k=>l.by (n.now+k)
def IK (n:NP)(l:mJ)(fs:List Int)(x:Value)(F:Hp):Prop:=∃y:NP,x=pair y.v (i64 (lD n fs))∧y.at F∧y.gz.length≤4611686018427387904∧y.now=(if lD n fs=0 then n.now else 0)∧y.gz.map LP.l=if lD n fs=0 then I5 n l fs else []
def rP (n:NP):Int:=if gD n≠0 then gD n else if n.now=1000000000 then 9 else 0
def Mw (n:NP)(x:Value)(F:Hp):Prop:=∃(y:NP) (l:List LP) (p:Option Addr) (c:Nat),x=triple y.v (.slice p l.length c) (i64 (rP n))∧y.at F∧y.gz.length≤60∧l.length≤60∧eY F p (l.flatMap LP.row)∧(∀x∈l,x.at F)∧y.now=(if rP n=0 then n.now+1 else 0)∧
 y.gz.map LP.l=(if rP n=0 then (n.gz.map LP.l).filter fun m=> !decide (m.due=n.now+1) else [])∧l.map LP.l=if rP n=0 then (n.gz.map LP.l).filter fun m=>decide (m.due=n.now+1) else []
end
section
open Go.TR
structure lU where
 kind:Int
 iZ:Int
 n:Int
 at_:Int
@[reducible] def lU.row (x:lU):List Value:=[i64 x.kind,i64 x.iZ,i64 x.n,i64 x.at_]
theorem nv (x:lU):x.row.length=4:=rfl
structure s8 where
 kind:Int
 iZ:Int
 value:List UInt8
 dX:List Int
 letter:mJ
structure fm where
 dF:eE
 dK:List Ow
 polls:List Poll
 now:Int
 gz:List mJ
 reach:Int
 dX:List (List Int)
 events:List lU
def fm.note (t:fm)(e:lU):fm:={ t with events:=t.events++[e] }
def fm.owned (t:fm)(k:Int):Bool:=decide (0≤k)&&decide (k<(t.dK.length:Int))
def fm.ow (t:fm)(k:Nat):Ow:=t.dK.getD k Ow.none
def fm.pl (t:fm)(k:Nat):Poll:=t.polls.getD k Poll.none
def fm.full (t:fm)(f:List Int):Bool:=f.any jZ||decide (60<t.gz.length+f.length)
def fm.post (t:fm)(l:mJ)(f:List Int):fm:=if t.full f=true then t else { t with gz:=t.gz++f.map fun k=>l.by (t.now+k) }
def fm.send (t:fm)(l:mJ):fm:=match t.dX with
 | []=>t.post l [1]
 | f::r=>fm.post { t with dX:=r } l f
def fm.qR (t:fm)(iZ:Int)(value:List UInt8):Bool:=t.owned iZ&&decide (jq (t.ow iZ.toNat) value=0)&&decide (oz t.dF (iI (t.ow iZ.toNat) value)=0)
def fm.want (t:fm)(iZ:Int)(value:List UInt8):fm:=
 if t.qR iZ value=true then
  fm.note { t with dK:=t.dK.set iZ.toNat (jQ (t.ow iZ.toNat) value),dF:=jj t.dF (iI (t.ow iZ.toNat) value) } ⟨1,iZ,((t.ow iZ.toNat).wanted.length:Nat),pG t.dF (iI (t.ow iZ.toNat) value)⟩
 else t
def kg (c:eE)(since:Int):Int:=max (min since ((c.dP.length:Int) - 1)) 0
def jo (c:eE)(since reach:Int):Int:=min (kg c since+reach - 1) ((c.dP.length:Int) - 1)
def fm.pD (t:fm)(l:mJ):mJ:=⟨l.from_,0,0,0,k8 t.dF (kg t.dF l.since) (jo t.dF l.since t.reach),o8 t.dF (t.ow l.from_.toNat).name (jo t.dF l.since t.reach),nq t.dF (t.ow l.from_.toNat).name (jo t.dF l.since t.reach)⟩
def fm.answer (t:fm)(l:mJ):fm:=if t.owned l.from_=true then t.send (t.pD l) else t
def fm.GK (t:fm)(l:mJ):Int:=FJ (t.ow l.iM.toNat) l.dP l.head l.nJ
def fm.seen (t:fm)(l:mJ):Ow:=uy (t.ow l.iM.toNat) l.dP l.head l.nJ
def fm.PN (t:fm)(l:mJ):fm:=fm.note { t with dK:=t.dK.set l.iM.toNat (t.seen l) } ⟨2,l.iM,t.GK l,(t.seen l).head.dW⟩
def fm.IC (t:fm)(l:mJ):fm:=if t.GK l=0∨t.GK l=1 then { t.PN l with polls:=t.polls.set l.iM.toNat ((t.pl l.iM.toNat).heard t.dF.now) } else t.PN l
def fm.Cm (t:fm)(k:Nat):mJ:=⟨-1,(k:Nat),(t.ow k).head.dW+1,0,[],Head.none,jn.none⟩
def fm.asked (t:fm)(k:Nat):fm:=fm.send { t with polls:=t.polls.set k ((t.pl k).mP t.dF.now) } (t.Cm k)
def fm.Ng (t:fm)(k:Nat):Bool:=decide ((t.pl k).asked+1=(t.pl k).lost)
def fm.ask (t:fm)(k:Nat):fm:=
 if (t.pl k).lC t.dF.now=0 then (if t.Ng k=true then (t.asked k).note ⟨3,(k:Nat),0,t.dF.now⟩ else t.asked k) else t
def fm.mL (t:fm)(l:mJ):fm:=if l.iM<0 then t.answer l else t.IC l
def fm.next (t:fm):fm:={ t with dF:=fP t.dF,now:=t.now+1,gz:=t.gz.filter fun m=> !decide (m.due=t.now+1) }
def fm.due (t:fm):List mJ:=t.gz.filter fun m=>decide (m.due=t.now+1)
def fm.comes (t:fm):List mJ→fm:=fun l=>l.foldl fm.mL t
def fm.asks (t:fm)(n:Nat):fm:=(List.range n).foldl fm.ask t
def fm.tick (t:fm):fm:=if gn t.dF=true then t else (t.next.comes t.due).asks t.dK.length
def mJ.for_ (l:mJ)(k:Int):mJ:={ l with iM:=k }
def fm.pU (t:fm)(d:s8):fm:=
 if d.kind=1 then t.want d.iZ d.value
 else if d.kind=2 then { t with dX:=t.dX++[d.dX] }
 else if d.kind=3 then (if t.owned d.iZ=true then t.post (d.letter.for_ d.iZ) [1] else t)
 else if d.kind=4 then t.tick
 else t
def fm.ou (t:fm)(l:List s8):fm:=l.foldl fm.pU t
theorem Bz (t:fm){l:List s8}{k:Nat}(h:k<l.length):t.ou (l.take (k+1))=(t.ou (l.take k)).pU l[k]:=by
 unfold fm.ou;rw[al h,List.foldl_append];rfl
theorem zi (t:fm){l:List mJ}{k:Nat}(h:k<l.length):t.comes (l.take (k+1))=(t.comes (l.take k)).mL l[k]:=by
 unfold fm.comes;rw[al h,List.foldl_append];rfl
theorem nG (t:fm)(k:Nat):t.asks (k+1)=(t.asks k).ask k:=by
 unfold fm.asks;rw[List.range_succ,List.foldl_append];rfl
structure fm.Ok (t:fm) (n:Nat):Prop where
 dF:ga t.dF=0
 cwf:t.dF.wf
 n4:n≤4
 dK:t.dK.length=n
 own: ∀o∈t.dK,kf o=0∧o.wf
 polls:t.polls.length=n
 jN: ∀p∈t.polls,p.bad=false
 now:t.now=t.dF.now
 gz:t.gz.length≤60
 late: ∀l∈t.gz,t.now<l.due
 lwf: ∀l∈t.gz,l.wf
 iM: ∀l∈t.gz,l.iM<(n:Int)
 reach:1≤t.reach∧t.reach≤40
 dX: ∀f∈t.dX,f.length * 8≤140737488355328
end
section
open Go.TR
theorem BQ {l:List Entry}(hl: ∀x∈l,x.wf){asks:List Ask}(ha: ∀a∈asks,a.wf)(hs: ∀(k:Nat) (hk:k<asks.length),mS (jY l (asks.take k)) asks[k].name asks[k].value=0): ∀k,k≤asks.length→∀x∈jY l (asks.take k),x.wf
 | 0,_,x,hx=>hl x hx
 | k+1,hk,x,hx=>by
  rw[qw l (by omega:k<asks.length)]at hx;rcases (vT (hs k (by omega))).2 x hx with rfl | hx
  ·have:=ha _ (aj (by omega:k<asks.length));exact⟨this.name,this.value⟩
  exact BQ hl ha hs k (by omega) x hx
theorem yY {l:List Entry}(hl:l.length≤24){asks:List Ask}(hs: ∀(k:Nat) (hk:k<asks.length),mS (jY l (asks.take k)) asks[k].name asks[k].value=0): ∀k,k≤asks.length→(jY l (asks.take k)).length≤24
 | 0,_=>hl
 | k+1,hk=>by
  rw[qw l (by omega:k<asks.length)];exact (fL (vT (hs k (by omega))).1).1
theorem zM {α:Type}(l:List α)(n:Nat):l.take (min n l.length)=l.take n∧l.drop (min n l.length)=l.drop n:=by
 by_cases h:n≤l.length
 ·rw[Nat.min_eq_left h];exact⟨rfl,rfl⟩
 rw[Nat.min_eq_right (by omega),aD,bZ,an (by omega),bW (by omega)];exact⟨rfl,rfl⟩
theorem Gm {c:eE}(hG:Good c):pE c.queue c.batch=0∧sD c.queue c.batch=⟨c.queue.most,c.queue.wait.drop c.batch.toNat⟩∧wN c.queue c.batch=fV c:=by
 have:=hG.times;have e:pE c.queue c.batch=0:=by unfold pE;rw[aZ hG.queue,aY (by omega)]
 refine⟨e,?_,?_⟩
 ·unfold sD lM;rw[aZ e,(zM _ _).2]
 unfold wN lM fV;rw[aZ e,(zM _ _).1]
theorem LN {c:eE}(h:ga c≠0):fP c=eE.none∧rK c=false:=by
 unfold fP rK;rw[aZ h,aX h];exact⟨rfl,rfl⟩
theorem nh {c:eE}(h:ga c=0)(h1:gn c=true):fP c=c∧rK c=false:=by
 unfold fP rK Hh;rw[aY (by rw[h];decide),aZ h1,h1];exact⟨rfl,by simp⟩
theorem pB {c:eE}(h:ga c=0)(h1:gn c=false)(h2:(c.now+1) % c.every≠0):fP c={ c with now:=c.now+1 }∧rK c=false:=by
 have hd:Hh c=false:=by unfold Hh;rw[h1,aX h2];rfl
 unfold fP rK;rw[aY (by rw[h];decide),h1,hd];exact⟨rfl,by simp⟩
theorem q6 {c:eE}(h:ga c=0)(h1:gn c=false)(h2:(c.now+1) % c.every=0):fP c=⟨⟨c.queue.most,c.queue.wait.drop c.batch.toNat⟩,c.batch,c.every,c.now+1,c.dP++[kM c],c.ee++[fY c]⟩∧rK c=true:=by
 have hd:Hh c=true:=by unfold Hh;rw[h1,aW h2];rfl
 unfold fP rK;rw[aY (by rw[h];decide),h1,hd,h];exact⟨rfl,by simp⟩
theorem KS (c:eE)(n:Int):gH { c with now:=n }=gH c:=rfl
theorem rT (c:eE):fY c=jY (gH c) (fV c):=rfl
theorem qi (l:List Entry)(a:List Ask):jY l (a.take 0)=l:=rfl
theorem zh (c:eE):kM c=⟨(fK c.dP).dW+1,gK (fY c) [],(fK c.dP).mark,c.now+1⟩:=rfl
attribute [local irreducible] vc dT gx fc fA gC gG gw fG Plain eu eR dH VS fq fx fD ju fe IntKind.wrap
attribute [local irreducible] dV gK ir gH fK ga fg fp jD jF eJ gn jY fV fY kM ko mS
set_option maxRecDepth 100000
set_option maxHeartbeats 4000000
theorem Cw (c:eE)(l:jf)(hw:c.wf){F:Hp}(ha:c.at F l):iu Tryz.prog F 11 [c.v l] (fun y F'=>∃l',y=triple ((fP c).v l') (.bool (rK c)) (i64 (ga c))∧(fP c).at F' l'):=by
 refine eu.drop (fU (N:=88) (rv:=[.cell 2 28,.tmp 3,.tmp 4]) eP mixed Tryz.func11 rfl rfl rfl rfl rfl ?_);(refine run ?_;repeat intro b);rename_i bY;revert b;intro bX;refine dG _ rfl rfl rfl O5 rfl (mW c l hw ha) ?_;(refine run ?_;repeat intro b);refine ez (decide (ga c≠0)) ?_ (fun h0=>?_) (fun h0=>?_)
 ·refine dS ?_;rw[ai];simp
 ·obtain⟨e1,e2⟩:=LN (ar h0);rw[e1,e2];(refine run ?_;repeat intro b);exact eM (VS.id ⟨_,rfl,jf.nil,rfl,eE.kx _⟩)
 have h0:ga c=0:=by have:=au h0;omega
 have hG:=nb h0;have hS:=hG.small;obtain⟨q1,q2,q3,_⟩:=lf hG.queue;obtain⟨t1,t2,t3,t4,t5,t6⟩:=hG.times;have hlen:=hG.lens;rw[h0];(refine run ?_;repeat intro b);refine fi rfl rfl rfl VP rfl (yB c l hw hS ha) ?_;rintro _ F1 hF1 ⟨l1,rfl,ha1,Y2⟩;(refine run ?_;repeat intro b);refine dG _ rfl rfl rfl Sn rfl (vF c l1 F1) ?_;(refine run ?_;repeat intro b);refine ez (gn c) rfl (fun h1=>?_) (fun h1=>?_)
 ·obtain⟨e1,e2⟩:=nh h0 h1;rw[e1,e2];(refine run ?_;repeat intro b);exact eM (VS.id ⟨_,rfl,l1,rfl,ha1⟩)
 (refine run ?_;repeat intro b);rw[wrap_i64 (n:=c.now+1) (by omega) (by omega)];(refine run ?_;repeat intro b);refine dI rfl rfl rfl (by omega) ?_;rw[rn (by omega)];(refine run ?_;repeat intro b);refine ez (decide ((c.now+1) % c.every≠0)) ?_ (fun h2=>?_) (fun h2=>?_)
 ·refine dS ?_;rw[ai];simp
 ·obtain⟨e1,e2⟩:=pB h0 h1 (ar h2);rw[e1,e2];(refine run ?_;repeat intro b);exact eM (VS.id ⟨_,rfl,l1,rfl,ha1.w,ha1.cw,ha1.h,ha1.ch,ha1.cb,ha1.b⟩)
 have h2:(c.now+1) % c.every=0:=by have:=au h2;omega
 obtain⟨e1,e2⟩:=q6 h0 h1 h2;obtain⟨k1,k2,k3⟩:=Gm hG;obtain⟨g1,g2,g3⟩:=hG.Rk;obtain⟨bs,hb,wW,hbs⟩:=ha1.b;have hsm:=hG.last;have S8:=(hw.ee _ (mO (c:=c) (by omega))).2;have tA:=(fL hG.last).1;have haw: ∀a∈fV c,a.wf:=fun a h=>hw.queue.wait a (by unfold fV at h;exact cV h);have hsw:=BQ S8 haw g3;have hss:=yY tA g3;have htl:(fV c).length≤30:=by unfold fV;rw[aw];omega
 rw[e1,e2];(refine run ?_;repeat intro b);refine fi rfl rfl rfl Ya rfl (Cf c.queue c.batch hw.queue ha1.cw ha1.w) ?_;rintro _ F2 hF2 ⟨pq,cq,pa,ca,rfl,Y3,hfa,hcq⟩;rw[k1,k2,k3];rw[k2]at Y3 hcq;rw[k3]at hfa;(refine run ?_;repeat intro b);obtain⟨⟨ps,ls,cs⟩,s1,s2,s3⟩:=ID { c with now:=c.now+1 } l1 bs (show 0<c.ee.length by omega) hw.OG hb (dZ hF2 wW);have hat:=Bk.eX hF2 (hbs _ s1);rw[KS]at s2;simp only at s2 hat;subst s2;refine dG _ rfl rfl rfl Th rfl s3 ?_;(refine run ?_;repeat intro b);refine fi rfl rfl rfl EF rfl (eu.MH (fun h=>by rw[aq h];rfl) (me ((gH c).flatMap Entry.row) (gH c).length (dL eI _) hat.2 (iK _) (by omega))) ?_;rintro _ F3 FU ⟨p3,c3,rfl,hc3,hf3⟩;have Y4:=dZ FU hfa;(refine run ?_;repeat intro b);revert b;intro bR;rw[show (gH c).length=(jY (gH c) ((fV c).take 0)).length from by rw[qi]];refine eU (fun q:Nat×(Option Addr×Nat)×Hp=>q.1≤(fV c).length∧F3.sub q.2.2∧eY q.2.2 q.2.1.1 ((jY (gH c) ((fV c).take q.1)).flatMap Entry.row))
  (fun q=>⟨[(1,.loc 0 0),(2,.loc 1 0),(6,.loc 2 0),(9,.v (.slice q.2.1.1 (jY (gH c) ((fV c).take q.1)).length q.2.1.2)),(48,.v (.slice pa (fV c).length ca)),(49,.v (i64 ((fV c).length:Nat))),(50,.v (i64 (q.1:Nat)))],q.2.2,
   [(2,⟨some bR,[.v (i64 c.queue.most),.v (.slice pq (c.queue.wait.drop c.batch.toNat).length cq)],24,2⟩),
    (1,⟨some bX,[.v (i64 0),.v (.slice none 0 0),.v (i64 0),.v (i64 0),.v (i64 0),.v (.slice none 0 0),.v (.slice none 0 0)],28,7⟩),
    (0,⟨some bY,[.v (i64 c.queue.most),.v (.slice l1.w c.queue.wait.length l1.cw),.v (i64 c.batch),.v (i64 c.every),.v (i64 (c.now+1)),.v (.slice l1.h c.dP.length l1.ch),.v (.slice l1.b c.ee.length l1.cb)],28,7⟩)],3⟩)
  (fun q=>(fV c).length - q.1) (0,(p3,c3),F3) ⟨az _,fun _ _ h=>h,by dsimp only;rw[qi];exact hf3⟩ (VS.eH [1,2,6,9,48,49,50] rfl rfl) ?_
 rintro⟨k,⟨p4,c4⟩,G⟩ ⟨hk,hG3,zU⟩;dsimp only at hk hG3 zU ⊢;have WL:=dZ hG3 Y4;by_cases hlt:k<(fV c).length
 ·obtain⟨o1,o2⟩:=eZ gj (by decide) WL k hlt;have e0:=g3 k hlt;have w0:=hsw k hk;have l0:=hss k hk;have wa:=haw _ (aj hlt);have st:=qw (gH c) hlt;generalize (fV c)[k]=ak at *;have hset:=GU (jY (gH c) ((fV c).take k)) ak.name ak.value (by omega) w0 wa.name (c:=c4) zU;have eo:w7 (jY (gH c) ((fV c).take k)) ak.name ak.value=jY (gH c) ((fV c).take (k+1)):=by unfold w7;rw[aZ e0,st]
  rw[e0,eo]at hset;(refine run ?_;repeat intro b);refine gm rfl (by omega) ?_;(refine run ?_;repeat intro b);refine dI rfl rfl rfl ⟨by omega,by omega,dO WL (j:=k * 4) (by rw[dL gj];omega)⟩ ?_;refine fy ak.cells rfl rfl rfl rfl rfl (by rw[ae];exact o1) (by rw[ae];exact o2) ?_;(refine run ?_;repeat intro b);refine fi rfl rfl rfl Xl rfl hset ?_;rintro _ G2 hG2 ⟨p5,c5,rfl,FQ⟩;(refine run ?_;repeat intro b);rw[dQ (by omega)];exact iH (k+1,(p5,c5),G2) [3] [1,2,6,9,48,49,50] ⟨hlt,hG3.trans hG2,FQ⟩ (by simp only;omega) rfl rfl rfl rfl ⟨⟨(show 2<3 by decide),fun e he=>lu [_,_] e he⟩,⟨(show 1<3 by decide),fun e he=>lu [_,_,_,_,_,_,_] e he⟩,⟨(show 0<3 by decide),fun e he=>lu [_,_,_,_,_,_,_] e he⟩,trivial⟩ rfl
 have hge:k=(fV c).length:=by omega
 rw[hge,aD,←rT]at zU;have hl4:=hss k hk;have hw4:=hsw k hk;rw[hge,aD,←rT]at hl4 hw4;rw[hge,aD,←rT];have r0:=qQ (fY c) (by omega) hw4 (c:=c4) zU;obtain⟨r1,r2⟩:=uF g1 re;rw[r1,r2]at r0;(refine run ?_;repeat intro b);refine gu rfl (by omega) ?_;(refine run ?_;repeat intro b);refine dG _ rfl rfl rfl R4 rfl r0 ?_;(refine run ?_;repeat intro b);have WM:=dZ (hF2.trans (FU.trans hG3)) wW;have hbl:=ln hb;obtain⟨hn1,hn2,hn3,Sq⟩:=hG.next h1 (root:=gK (fY c) []) (uS _ _);rw[←zh]at Sq;rw[Y2];refine fz [2] (by kernel_rfl) ?_;refine dR [0,1,3] (f':=7) (by kernel_rfl) rfl rfl rfl ?_;(refine run ?_;repeat intro b);refine jC 2 4 (by kernel_rfl) rfl rfl rfl ?_ ?_
 ·(refine run ?_;repeat intro b);refine eC (Hp.sub.refl _) (dM rfl) ?_;refine dR [6] (f':=5) (by kernel_rfl) rfl rfl rfl ?_;(refine run ?_;repeat intro b);refine dY 4 (by kernel_rfl) rfl rfl ?_;(refine run ?_;repeat intro b);refine eC (Hp.sub.refl _) (dM rfl) ?_;refine dY 5 (by kernel_rfl) rfl rfl ?_;refine jy (bs.map Bk.v) rfl rfl rfl rfl rfl rfl (by rw[ab,hbl];exact (aA _).symm) WM (fb rfl rfl) (fun e he=>by rw[aB.1 he];exact⟨rfl,_,rfl⟩) (by show _ * 24≤_;omega) (fun h=>by cases h) (fun _ b2 c2 hc2=>?_);(refine run ?_;repeat intro b);refine eC (Hp.sub.refl _) (dM rfl) ?_;refine dY 7 (by kernel_rfl) rfl rfl ?_;(refine run ?_;repeat intro b);refine eC (Hp.sub.refl _) (dM rfl) ?_;refine dR [8] (f':=1) (by kernel_rfl) rfl rfl rfl ?_;(refine run ?_;repeat intro b);refine dY 9 (by kernel_rfl) rfl rfl ?_;(refine run ?_;repeat intro b);refine eC (Hp.sub.refl _) (dM rfl) ?_;refine fk (by kernel_rfl) ?_;(refine run ?_;repeat intro b);have hcells:(bs.map Bk.v).map EV.v++[EV.v (Bk.v (p4,fY c,c4))]=((bs++[(p4,fY c,c4)]).map Bk.v).map EV.v:=by simp
  refine fT (VS.freeze 4 [1,2,12,79,80,82] rfl ((a8 (iU _) hcells).trans (eD _)) rfl rfl fun G5 hs5 FQ=>VS.id ?_);(refine run ?_;repeat intro b);have hl5:=dZ (hF2.trans (FU.trans (hG3.trans hs5))) ha1.h;have hgr:=tV c.dP (gK (fY c) []) (c.now+1) (by omega) hw.dP (c:=l1.ch) hl5;rw[hn3,Sq]at hgr;refine fi rfl rfl rfl TC rfl hgr ?_;rintro _ G6 P4 ⟨p6,c6,rfl,hc6,Oy⟩;(refine run ?_;repeat intro b);refine eM (VS.id ⟨_,rfl,⟨pq,cq,p6,c6,some ⟨b2,0,none⟩,c2⟩,?_,dZ (FU.trans (hG3.trans (hs5.trans P4))) Y3,hcq,Oy,hc6,by rw[ag];exact hc2,bs++[(p4,fY c,c4)],by rw[aF,hb];rfl,dZ P4 FQ,fun s hs=>?_⟩)
  ·simp only[eE.v,ag];rfl
  rcases aK.1 hs with hs | hs
  ·exact Bk.eX (hF2.trans (FU.trans (hG3.trans (hs5.trans P4)))) (hbs s hs)
  rw[aB.1 hs];exact⟨trivial,dZ (hs5.trans P4) zU⟩
 (refine run ?_;repeat intro b);refine eC (Hp.sub.refl _) (dM rfl) ?_;refine dY 2 (by kernel_rfl) rfl rfl ?_;(refine run ?_;repeat intro b);refine eC (Hp.sub.refl _) (dM rfl) ?_;refine dR [6] (f':=4) (by kernel_rfl) rfl rfl rfl ?_;(refine run ?_;repeat intro b);refine dY 5 (by kernel_rfl) rfl rfl ?_;refine jy (bs.map Bk.v) rfl rfl rfl rfl rfl rfl (by rw[ab,hbl];exact (aA _).symm) WM (fb rfl rfl) (fun e he=>by rw[aB.1 he];exact⟨rfl,_,rfl⟩) (by show _ * 24≤_;omega) (fun h=>by cases h) (fun _ b2 c2 hc2=>?_);(refine run ?_;repeat intro b);refine eC (Hp.sub.refl _) (dM rfl) ?_;refine dY 7 (by kernel_rfl) rfl rfl ?_;(refine run ?_;repeat intro b);refine eC (Hp.sub.refl _) (dM rfl) ?_;refine dR [8] (f':=1) (by kernel_rfl) rfl rfl rfl ?_;(refine run ?_;repeat intro b);refine dY 9 (by kernel_rfl) rfl rfl ?_;(refine run ?_;repeat intro b);refine eC (Hp.sub.refl _) (dM rfl) ?_;refine fk (by kernel_rfl) ?_;(refine run ?_;repeat intro b);have hcells:(bs.map Bk.v).map EV.v++[EV.v (Bk.v (p4,fY c,c4))]=((bs++[(p4,fY c,c4)]).map Bk.v).map EV.v:=by simp
 refine fT (VS.freeze 4 [1,2,12,79,80,82] rfl ((a8 (iU _) hcells).trans (eD _)) rfl rfl fun G5 hs5 FQ=>VS.id ?_);(refine run ?_;repeat intro b);have hl5:=dZ (hF2.trans (FU.trans (hG3.trans hs5))) ha1.h;have hgr:=tV c.dP (gK (fY c) []) (c.now+1) (by omega) hw.dP (c:=l1.ch) hl5;rw[hn3,Sq]at hgr;refine fi rfl rfl rfl TC rfl hgr ?_;rintro _ G6 P4 ⟨p6,c6,rfl,hc6,Oy⟩;(refine run ?_;repeat intro b);refine eM (VS.id ⟨_,rfl,⟨pq,cq,p6,c6,some ⟨b2,0,none⟩,c2⟩,?_,dZ (FU.trans (hG3.trans (hs5.trans P4))) Y3,hcq,Oy,hc6,by rw[ag];exact hc2,bs++[(p4,fY c,c4)],by rw[aF,hb];rfl,dZ P4 FQ,fun s hs=>?_⟩)
 ·simp only[eE.v,ag];rfl
 rcases aK.1 hs with hs | hs
 ·exact Bk.eX (hF2.trans (FU.trans (hG3.trans (hs5.trans P4)))) (hbs s hs)
 rw[aB.1 hs];exact⟨trivial,dZ (hs5.trans P4) zU⟩
end
end Go.Proofs.YthbnddgjkonkdaaGreatDoor
