/- A part of the proof. -/
import Derived.Test.YthbnddgjkonkdaaGreatDoorPlayed
set_option linter.unusedVariables false
set_option linter.unusedSimpArgs false
namespace Go.Proofs.YthbnddgjkonkdaaGreatDoor
open Go.TR
theorem J7 {n:Nat}{t:fm}(h:t.Inv n){T:TV}(i:T.Is t):Np T:=by
 have hg:Good T.dF:=by rw[i.dF];exact h.iA
 have ha: ∀a∈T.dF.queue.wait,a.wf:=by rw[i.dF];exact h.asks
 have hw:=oB hg ha;obtain⟨q1,q2,q3,_⟩:=oA hg.queue;have ho:T.dK.length=n:=by
  have e:=a8 List.length i.dK;rw[ab]at e;exact e.trans h.dK
 have Sq:=h.n4;have aak:T.fJ.gz.length≤60:=by
  have e:=a8 List.length i.gz;rw[ab]at e;rw[e];exact h.gz
 exact {
  dF:=⟨by omega,by have:=hw.hlen;omega,by have:=hw.OG;omega,fun l hl=>by have:=(hw.ee l hl).1;omega⟩
  dK:=by omega
  Qi:=fun x hx=>by
   have hm:x.o∈t.dK:=by rw[←i.dK];exact cR hx
   have:=iT (h.own _ hm).2;omega
  polls:=by rw[i.polls,h.polls];omega
  gz:=by omega
  wf:=fun x hx=>by
   have hm:x.l∈t.gz:=by rw[←i.gz];exact cR hx
   exact (h.Ip _ hm).wf }
@[reducible] def G9:TV:=⟨eE.none,jf.nil,[],none,0,[],none,0,NP.none⟩
theorem Pr:G9.Is ⟨eE.none,[],[],0,[],0,[],[]⟩:=⟨rfl,rfl,rfl,rfl,rfl⟩
theorem KI {T:TV}(i:T.Is ⟨eE.none,[],[],0,[],0,[],[]⟩):Np T:=by
 have ho:T.dK=[]:=by have:=i.dK;simpa using this
 have hp:=i.polls;have hw:T.fJ.gz=[]:=by have:=i.gz;simpa using this
 exact {
  dF:=by rw[i.dF];exact Fits.none
  dK:=by rw[ho];exact az _
  Qi:=fun x hx=>by rw[ho]at hx;cases hx
  polls:=by rw[hp];exact az _
  gz:=by rw[hw];exact az _
  wf:=fun x hx=>by rw[hw]at hx;cases hx }
theorem OA (F:Hp):G9.at F:={
 dF:=eE.kx F
 po:=eG _ _
 dK:=fun x hx=>by cases hx
 pp:=eG _ _
 fJ:=⟨eG _ _,fun x hx=>by cases hx⟩ }
theorem JQ (s:lT):(firstT s).events.length=0:=rfl
theorem EO {s:lT}{n:Nat}(h:mN s n=0):hZ s=0:=by
 unfold mN at h;by_cases h0:hZ s=0
 ·exact h0
 rw[aZ h0]at h;exact absurd h h0
attribute [local irreducible] vc dT gx fc fA gC gG gw fG Plain eu eR dH VS fq fx fD ju fe IntKind.wrap
attribute [local irreducible] dV gK eL jG jM gg mN firstT fm.ou
set_option maxRecDepth 100000
set_option maxHeartbeats 8000000
theorem GQ (s:lT)(a:Ak)(hw:s.wf)(d:K6)(hl:d.l.length≤4611686018427387904){F:Hp}(ha:s.at F a)(hd:d.at F):Plain Tryz.prog F 6 [.agg (s.row a).toArray,.slice d.p d.l.length d.c] (.bool true):=by
 refine dN (N:=58) (rv:=[.tmp 4]) eP mixed Tryz.func6 rfl rfl rfl rfl rfl ?_;(refine run ?_;repeat intro b);refine fi rfl rfl rfl Xh rfl (Pg s a hw d hl ha hd) ?_;rintro _ F1 hs1 (⟨h0,T,hT,K9,rfl⟩ | ⟨h0,T,pe,ce,hT,K9,hev,rfl⟩)
 ·rw[ab]at h0;(refine run ?_;repeat intro b);refine dG _ rfl rfl rfl Vc rfl (tP s a d.l.length hw (lT.eX hs1 ha)) ?_;rw[ab];(refine run ?_;repeat intro b);refine ez true (by rw[←bne_iff_ne.2 h0];rfl) (fun _=>?_) (fun h=>by cases h);(refine run ?_;repeat intro b);refine dG _ rfl rfl rfl Uv rfl (sQ T G9 hT Pr (KI hT) K9 (OA F1)) ?_;(refine run ?_;repeat intro b);rw[beq_self_eq_true];rfl
 rw[ab]at h0;(refine run ?_;repeat intro b);refine dG _ rfl rfl rfl Vc rfl (tP s a d.l.length hw (lT.eX hs1 ha)) ?_;rw[h0];(refine run ?_;repeat intro b);refine ez (decide (60<d.l.length)) ?_ (fun h1=>?_) (fun h1=>?_)
 ·refine dS ?_;rw[ai];simp;omega
 ·(refine run ?_;repeat intro b);rfl
 have h1:=au h1;have hb0:=EO h0;have hd1:=K6.eX hs1 hd;have hinv:=(xA (d.l.map qP.d) (firstT s) (tq hw hb0) fun x hx=>by obtain⟨y,hy,rfl⟩:=aG.1 hx;exact hd.ok y hy);(refine run ?_;repeat intro b);refine fi rfl rfl rfl Xd rfl (JO s a hw hb0 d (by omega) (lT.eX hs1 ha) hd1) ?_;rintro _ F2 hs2 ⟨T2,pe2,ce2,hT2,Yo,Oa,rfl⟩;(refine run ?_;repeat intro b);refine dG _ rfl rfl rfl Uv rfl (sQ T T2 hT hT2 (J7 hinv.1 hT) (TV.eX hs2 K9) Yo) ?_;(refine run ?_;repeat intro b);refine dG _ rfl rfl rfl XO rfl (w8 _ (by have h3:=hinv.2.1;rw[ab]at h3;have h4:=JQ s;omega) (dZ hs2 hev) Oa) ?_;(refine run ?_;repeat intro b);rfl
end Go.Proofs.YthbnddgjkonkdaaGreatDoor
