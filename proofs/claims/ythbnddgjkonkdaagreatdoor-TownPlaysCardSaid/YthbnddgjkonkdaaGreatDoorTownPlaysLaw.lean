/- A part of the proof. -/
import Derived.Test.YthbnddgjkonkdaaGreatDoorPlayed
set_option linter.unusedVariables false
set_option linter.unusedSimpArgs false
namespace Go.Proofs.YthbnddgjkonkdaaGreatDoor
open Go.TR
theorem Jy {n:Nat}{t:fr}(h:t.Inv n){T:TV}(i:T.Is t):NG T:=by
 have hg:Good T.dI:=by rw[i.dI];exact h.iC
 have ha: ∀a∈T.dI.queue.wait,a.wf:=by rw[i.dI];exact h.asks
 have hw:=oD hg ha;obtain⟨q1,q2,q3,_⟩:=oI hg.queue;have ho:T.dN.length=n:=by
  have e:=a8 List.length i.dN;rw[ab]at e;exact e.trans h.dN
 have Su:=h.n4;have aak:T.fN.gE.length≤60:=by
  have e:=a8 List.length i.gE;rw[ab]at e;rw[e];exact h.gE
 exact {
  dI:=⟨by omega,by have:=hw.hlen;omega,by have:=hw.OS;omega,fun l hl=>by have:=(hw.ez l hl).1;omega⟩
  dN:=by omega
  Ql:=fun x hx=>by
   have hm:x.o∈t.dN:=by rw[←i.dN];exact cV hx
   have:=iW (h.own _ hm).2;omega
  polls:=by rw[i.polls,h.polls];omega
  gE:=by omega
  wf:=fun x hx=>by
   have hm:x.l∈t.gE:=by rw[←i.gE];exact cV hx
   exact (h.I2 _ hm).wf }
@[reducible] def Gp:TV:=⟨eI.none,ji.nil,[],none,0,[],none,0,NP.none⟩
theorem OE:Gp.Is ⟨eI.none,[],[],0,[],0,[],[]⟩:=⟨rfl,rfl,rfl,rfl,rfl⟩
theorem Kk {T:TV}(i:T.Is ⟨eI.none,[],[],0,[],0,[],[]⟩):NG T:=by
 have ho:T.dN=[]:=by have:=i.dN;simpa using this
 have hp:=i.polls;have hw:T.fN.gE=[]:=by have:=i.gE;simpa using this
 exact {
  dI:=by rw[i.dI];exact Fits.none
  dN:=by rw[ho];exact az _
  Ql:=fun x hx=>by rw[ho]at hx;cases hx
  polls:=by rw[hp];exact az _
  gE:=by rw[hw];exact az _
  wf:=fun x hx=>by rw[hw]at hx;cases hx }
theorem O0 (F:Hp):Gp.at F:={
 dI:=eI.kH F
 po:=eJ _ _
 dN:=fun x hx=>by cases hx
 pp:=eJ _ _
 fN:=⟨eJ _ _,fun x hx=>by cases hx⟩ }
theorem Kw (s:lX):(firstT s).events.length=0:=rfl
theorem Ft {s:lX}{n:Nat}(h:mQ s n=0):ig s=0:=by
 unfold mQ at h;by_cases h0:ig s=0
 ·exact h0
 rw[aZ h0]at h;exact absurd h h0
attribute [local irreducible] vc dW gz fg fD gF gJ gB fJ Plain eD eX dK VS fv fA fG jt fh IntKind.wrap
attribute [local irreducible] dY gN eP jH jS gj mQ firstT fr.oB
set_option maxRecDepth 100000
set_option maxHeartbeats 8000000
theorem GY (s:lX)(a:Ar)(hw:s.wf)(d:K9)(hl:d.l.length≤4611686018427387904){F:Hp}(ha:s.at F a)(hd:d.at F):Plain Tryz.prog F 6 [.agg (s.row a).toArray,.slice d.p d.l.length d.c] (.bool true):=by
 refine dQ (N:=58) (rv:=[.tmp 4]) eW mixed Tryz.func6 rfl rfl rfl rfl rfl ?_;(refine run ?_;repeat intro b);refine fm rfl rfl rfl Yb rfl (Pt s a hw d hl ha hd) ?_;rintro _ F1 hs1 (⟨h0,T,hT,Lc,rfl⟩ | ⟨h0,T,pe,ce,hT,Lc,hev,rfl⟩)
 ·rw[ab]at h0;(refine run ?_;repeat intro b);refine dJ _ rfl rfl rfl Uq rfl (uU s a d.l.length hw (lX.e8 hs1 ha)) ?_;rw[ab];(refine run ?_;repeat intro b);refine eE true (by rw[←bne_iff_ne.2 h0];rfl) (fun _=>?_) (fun h=>by cases h);(refine run ?_;repeat intro b);refine dJ _ rfl rfl rfl Ud rfl (sT T Gp hT OE (Kk hT) Lc (O0 F1)) ?_;(refine run ?_;repeat intro b);rw[beq_self_eq_true];rfl
 rw[ab]at h0;(refine run ?_;repeat intro b);refine dJ _ rfl rfl rfl Uq rfl (uU s a d.l.length hw (lX.e8 hs1 ha)) ?_;rw[h0];(refine run ?_;repeat intro b);refine eE (decide (60<d.l.length)) ?_ (fun h1=>?_) (fun h1=>?_)
 ·refine dV ?_;rw[ai];simp;omega
 ·(refine run ?_;repeat intro b);rfl
 have h1:=au h1;have hb0:=Ft h0;have hd1:=K9.e8 hs1 hd;have hinv:=(xt (d.l.map qS.d) (firstT s) (tg hw hb0) fun x hx=>by obtain⟨y,hy,rfl⟩:=aG.1 hx;exact hd.ok y hy);(refine run ?_;repeat intro b);refine fm rfl rfl rfl X3 rfl (KU s a hw hb0 d (by omega) (lX.e8 hs1 ha) hd1) ?_;rintro _ F2 hs2 ⟨T2,pe2,ce2,hT2,Yr,Od,rfl⟩;(refine run ?_;repeat intro b);refine dJ _ rfl rfl rfl Ud rfl (sT T T2 hT hT2 (Jy hinv.1 hT) (TV.e8 hs2 Lc) Yr) ?_;(refine run ?_;repeat intro b);refine dJ _ rfl rfl rfl Xk rfl (xg _ (by have h3:=hinv.2.1;rw[ab]at h3;have h4:=Kw s;omega) (eu hs2 hev) Od) ?_;(refine run ?_;repeat intro b);rfl
end Go.Proofs.YthbnddgjkonkdaaGreatDoor
