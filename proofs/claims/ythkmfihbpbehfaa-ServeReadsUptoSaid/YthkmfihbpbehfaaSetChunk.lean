/-
A small program logic of our own for the model. Part t: a range over a function whose contract is known. Nothing here speaks of one program.
-/
import Derived.Test.YthkmfihbpbehfaaFwS
import Derived.RangeFuncNested
import Derived.RangeFuncBound
import Derived.RangeFuncCalls
import Derived.RangeFuncLeaves
import Derived.Shelf.Abstract
import Derived.Shelf.RegionOpen
import Derived.WalkKit
import Derived.OwnWalkIn
import Derived.TacticsInMore
import Derived.LoopNIn
import Derived.LoopIn
import Derived.Test.YthkmfihbpbehfaaSetWireLaw
/-!
A small program logic of our own for the model. Part t: a range over a function whose contract is known. Nothing here speaks of one program.
-/
namespace Go.TR
open Go.RowKit (Below)
set_option linter.unusedVariables false
set_option linter.unusedSimpArgs false
variable {P : Program} {tb : Tb} {N : Nat}
/-- What is of no cells, and not below B, is known too. -/
def Fx (F : Hp) (B : Nat) (W : World) : Hp := fun k => if k < B then F k else match W.heap[k]? with
  | some o => if o.isCells = true then F k else some o
  | none => F k
theorem Fx_sub {F : Hp} {B : Nat} {W : World} (hB : ∀ k o, F k = some o → k < B) : F.sub (Fx F B W) := fun k o h => by
  unfold Fx
  rw [if_pos (hB k o h)]
  exact h
theorem Fx_le {F : Hp} {B : Nat} {W : World} (h : F.le W) : (Fx F B W).le W := fun k o hk => by
  unfold Fx at hk
  split at hk
  · exact h k o hk
  · split at hk
    · rename_i o' ho
      split at hk
      · exact h k o hk
      · cases hk; exact ho
    · exact h k o hk
theorem Fx_cells {F : Hp} {B : Nat} {W : World} {b : Nat} {cs : Array Value} {t : TypeId} {fr : Nat × Nat} (h : W.heap[b]? = some (.cells cs t fr)) : Fx F B W b = F b := by
  unfold Fx
  split
  · rfl
  · rw [h]
    simp [Obj.isCells]
theorem Fx_other {F : Hp} {B : Nat} {W : World} {k : Nat} {o : Obj} (hk : B ≤ k) (h : W.heap[k]? = some o) (ho : o.isCells = false) : Fx F B W k = some o := by
  unfold Fx
  rw [if_neg (by omega), h]
  simp [ho]
theorem sat_more {c : Ctx} {env : Env} {F : Hp} {rs : RL} {nx B : Nat} {a : Act} {W : World} (hs : Sat c N ⟨env, F, rs, nx⟩ a W) (hB : ∀ k o, F k = some o → k < B) (hE : c.wE.heap.size ≤ B) : Sat c N ⟨env, Fx F B W, rs, nx⟩ a W := {
  size := hs.size
  defers := hs.defers
  wok := {
    le := Fx_le hs.wok.le
    own := {
      own := fun id r hr => by
        have h1 := hs.wok.own.own id r hr
        cases hb : r.blk with
        | none => rw [hb] at h1; exact h1
        | some b =>
          rw [hb] at h1
          obtain ⟨g1, g2, cur, g3, g4⟩ := h1
          exact ⟨(Fx_cells g3).trans g1, g2, cur, g3, g4⟩
      apart := hs.wok.own.apart }
    pres := hs.wok.pres
    new := hs.wok.new
    fnew := fun k hk => by
      by_cases h : k < B
      · refine hs.wok.fnew k ?_
        have : Fx F B W k = F k := by unfold Fx; rw [if_pos h]
        show (F k).isSome = true
        rw [← this]; exact hk
      · exact .inr (by omega)
    sz := hs.wok.sz
    tp := hs.wok.tp }
  hist := ⟨hs.hist.sub.trans (Fx_sub hB), hs.hist.nxle, hs.hist.succ⟩
  rids := hs.rids
  ids := hs.ids
  env := hs.env
  gv := hs.gv }
theorem sat_own {c : Ctx} {env : Env} {F : Hp} {rs : RL} {nx B : Nat} {a : Act} {W W' : World} {row : Option Nat} (hs : Sat c N ⟨env, F, rs, nx⟩ a W) (hB : ∀ k o, F k = some o → k < B) (hE : c.wE.heap.size ≤ B) (hg : W.grownBy W' row) (hr : ∀ r, row = some r → B ≤ r ∧ ∃ o : Obj, W.heap[r]? = some o ∧ o.isCells = false) : Sat c N ⟨env, F, rs, nx⟩ a W' := by
  have hblk : ∀ k (o : Obj), W.heap[k]? = some o → (k < B ∨ o.isCells = true) → W'.heap[k]? = some o := fun k o hk h => by
    refine (hg.block k (lt_of_some hk) (fun e => ?_)).trans hk
    obtain ⟨h1, o', h2, h3⟩ := hr k e.symm
    rcases h with h | h
    · omega
    · rw [hk] at h2
      cases h2
      rw [h] at h3
      cases h3
  exact {
    size := hs.size
    defers := hs.defers
    wok := {
      le := fun k o hk => hblk k o (hs.wok.le k o hk) (.inl (hB k o hk))
      own := {
        own := fun id r hr' => by
          have h1 := hs.wok.own.own id r hr'
          cases hb : r.blk with
          | none => rw [hb] at h1; exact h1
          | some b =>
            rw [hb] at h1
            obtain ⟨g1, g2, cur, g3, g4⟩ := h1
            exact ⟨g1, g2, cur, hblk b _ g3 (.inr rfl), g4⟩
        apart := hs.wok.own.apart }
      pres := ⟨hg.os.trans hs.wok.pres.os, hg.tape.trans hs.wok.pres.tape, hg.output.trans hs.wok.pres.output, Nat.le_trans hs.wok.pres.size hg.size, fun k hk hx => by
        refine (hg.block k (Nat.lt_of_lt_of_le hk hs.wok.pres.size) (fun e => ?_)).trans (hs.wok.pres.block k hk hx)
        have := (hr k e.symm).1
        omega⟩
      new := hs.wok.new
      fnew := hs.wok.fnew
      sz := Nat.le_trans hs.wok.sz hg.size
      tp := hs.wok.tp }
    hist := hs.hist
    rids := hs.rids
    ids := hs.ids
    env := hs.env
    gv := hs.gv }
/-- The same memory, under another activation. -/
theorem sat_swap {c c' : Ctx} {env env2 : Env} {F F2 : Hp} {rs rs0 : RL} {nx nx0 : Nat} {a a2 : Act} {W W0 : World} (h2 : Sat c' N ⟨env2, F2, rs, nx⟩ a2 W) (h0 : Sat c N ⟨env, F, rs0, nx0⟩ a W0) (hsz : c.sz ≤ W.heap.size) (hc : c' = { c with sz := c'.sz }) (hF : F.sub F2) (hv : ∀ k e, lk env k = some e → e.lt nx ∧ e.val rs = e.val rs0) : Sat c N ⟨env, F, rs, nx⟩ a W := {
  size := h0.size
  defers := h0.defers
  wok := {
    le := fun k o hk => h2.wok.le k o (hF k o hk)
    own := {
      own := fun id r hr => by
        have h1 := h2.wok.own.own id r hr
        cases hb : r.blk with
        | none => rw [hb] at h1; exact h1
        | some b =>
          rw [hb] at h1
          obtain ⟨g1, g2⟩ := h1
          refine ⟨?_, g2⟩
          show F b = none
          cases hf : F b with
          | none => rfl
          | some o => have h3 := hF b o hf; have h4 : F2 b = none := g1; rw [h4] at h3; cases h3
      apart := h2.wok.own.apart }
    pres := by have := h2.wok.pres; rw [hc] at this; exact this
    new := by have := h2.wok.new; rw [hc] at this; exact this
    fnew := h0.wok.fnew
    sz := hsz
    tp := h0.wok.tp }
  hist := ⟨h0.hist.sub, by have := h2.hist.nxle; rw [hc] at this; exact this, by have := h2.hist.succ; rw [hc] at this; exact this⟩
  rids := h2.rids
  ids := fun n e he => (hv n e he).1
  env := fun n e x hg he hx => by
    simp only at hx
    rw [(hv n e he).2] at hx
    exact h0.env n e x rfl he hx
  gv := fun n ch e he => by simp [lkG] at he }
theorem sat_sz {c : Ctx} {st : St} {a : Act} {W : World} (h : Sat c N st a W) : Sat { c with sz := W.heap.size } N st a W := {
  size := h.size
  defers := h.defers
  wok := ⟨h.wok.le, h.wok.own, h.wok.pres, h.wok.new, h.wok.fnew, Nat.le_refl _, h.wok.tp⟩
  hist := ⟨h.hist.sub, h.hist.nxle, h.hist.succ⟩
  rids := h.rids
  ids := h.ids
  env := h.env
  gv := h.gv }
theorem sat_put {c : Ctx} {env : Env} {F : Hp} {rs : RL} {nx d : Nat} {a : Act} {W : World} {v : Value} (h : Sat c N ⟨env, F, rs, nx⟩ a W) (hd : d < N) : Sat c N ⟨(d, .v v) :: env, F, rs, nx⟩ (a.put (some d) v) W := {
  size := by rw [size_put]; exact h.size
  defers := h.defers
  wok := h.wok
  hist := h.hist
  rids := h.rids
  ids := fun n e he => by
    simp only [lk_cons] at he
    split at he
    · cases he; trivial
    · exact h.ids n e he
  env := fun n e x hg he hx => by
    simp only [lk_cons] at he
    rw [getD_put (by rw [h.size]; exact hd)]
    split at he
    · rename_i hn
      cases he
      rw [if_pos hn]
      cases hx; rfl
    · rename_i hn
      rw [if_neg hn]
      exact h.env n e x rfl he hx
  gv := fun n ch e he => by simp [lkG] at he }
/-- Behind a round: memory is told of by the next sequence. -/
def rfK (N kn : Nat) (G : St → Prop) : Exit → St → Prop
  | .normal, st => VSf kn N [] st G
  | _, _ => False
theorem rfK_n {kn : Nat} {G : St → Prop} {st : St} (h : VSf kn N [] st G) : rfK N kn G .normal st := h
/-- A range over a function that nobody leaves early. -/
theorem rf_wp {α β : Type} (htb : TbOK P tb) (hm : P.follows .mixedOrders = true) {c : Ctx} {env : Env} {F : Hp} {a : Act} {w : World}
    {g : Operand} {p q : Nat} {id : Nat} {ty : TypeId} {pos : String} {af : Array Edge} {body : Code} {Q : Exit → Act → World → Prop}
    (hp : p < N) (hq : q < N) {gf : Nat} {lb : Array Value} (hg : a.eval g = .func (.func gf) #[] lb) (eg : ∀ args w, (callFunc gf args).run P w = .ok (.enter gf args) w)
    {enc : α → Value} {S Sp : List α → Prop} {M : Nat} (hseq : SeqStopsK Fence.wide 4 P gf lb (fun x => #[enc x]) (fun A B => F.le A → F.le B) S Sp M w)
    (T : List α → β → RL) (nT : Nat) (Inv : List α → β → Prop) (b0 : β) (h0 : Inv [] b0) (hs : Sat c N ⟨env, F, T [] b0, nT⟩ a w)
    (hv : ∀ pre b k e, Inv pre b → lk env k = some e → e.val (T pre b) = e.val (T [] b0))
    (hok : okR body = true) (kn : Nat) (hkn : c.nx0 ≤ kn)
    (hbody : ∀ pre x b F', Inv pre b → pre.length < M → F.sub F' → vc P tb N body (rfK N kn fun st' => ∃ b' env' F2, Inv (pre ++ [x]) b' ∧ F'.sub F2 ∧ st' = ⟨env', F2, T (pre ++ [x]) b', nT⟩) ⟨(q, .v (enc x)) :: (p, .v (enc x)) :: env, F', T pre b, nT⟩)
    (hdone : ∀ D xs b W, w.heap.size ≤ D → S xs → Inv xs b → Sat c N ⟨env, F, T xs b, nT⟩ a W → W.heap[D]? = some (.deferred (some [])) → Q .normal { a with defers := { target := .collected D, args := #[] } :: a.defers } W) :
    (Code.rangeFunc g #[p] (.region id #[⟨some q, .assign (.tmp p), ty, pos, af, none⟩] false) body).wp P Q a w := by
  have hB : ∀ k o, F k = some o → k < w.heap.size := fun k o h => lt_of_some (hs.wok.le k o h)
  have hE : c.wE.heap.size ≤ w.heap.size := hs.wok.pres.size
  have ha : ({ tmps := a.tmps, defers := [] } : Act) = a := by
    have := hs.defers
    cases a
    simp only at this
    subst this
    rfl
  refine (wpIn_wide (n := 5)).1 ?_
  refine wpIn_rangeFunc_ownH (F := Fence.wide) (n := 5) rfl (by decide) hg trivial eg hseq (fun h k x => k (h x)) ?hKb (Below.refl _ _) (fun _ => rfl)
    (fun pre W => ∃ b, Inv pre b ∧ Sat c N ⟨env, F, T pre b, nT⟩ a W) (fun _ _ _ => False) ?hI (fun _ s A B row h _ _ => h) ⟨b0, h0, hs⟩
    (fun x a' _ => a' = (a.put (some p) (enc x)).put (some q) (enc x)) (fun x a' s A B row h _ _ => h) ?assign ?body ?done ?stop
  case hKb =>
    intro W l o o' hl ho hc hwk hF k o1 hk
    exact (World.putObj_heap_other (by have := hB k o1 hk; omega)).trans (hF k o1 hk)
  case hI =>
    rintro s A B row ⟨b, h1, h2⟩ hg hr
    exact ⟨b, h1, sat_own h2 hB hE hg hr⟩
  case assign =>
    intro l pre x W K hI hK
    refine wpIn_region_list ?_
    refine Eq.mpr (if_pos (c := Region.wanted _ _ = true) rfl) ?_
    refine oper_R (ro := some l) (fun c h => by cases h) ?_
    show K _ W
    refine hK _ _ (KeepsFrom.refl _ _) (fun h => h) hI ?_
    have e1 : (#[p].zip #[enc x]).foldl (fun t (p, v) => t.setIfInBounds p v) a.tmps = a.tmps.setIfInBounds p (enc x) := by simp
    rw [e1]
    have e2 : ({ tmps := a.tmps.setIfInBounds p (enc x), defers := [] } : Act) = a.put (some p) (enc x) := by
      rw [← ha]
      rfl
    rw [e2]
    congr 1
    show (a.put (some p) (enc x)).tmps.getD p undef = enc x
    rw [getD_put (by rw [hs.size]; exact hp), if_pos rfl]
  case body =>
    rintro l pre x a' W hl ⟨r, hr⟩ ⟨b, h1, h2⟩ rfl hlt
    have h3 := sat_put (v := enc x) (sat_put (v := enc x) h2 hp) hq
    have h4 := sat_sz (sat_more h3 hB hE)
    have h5 := vcR_sound htb hm _ (ro := some l) (n := 3) body _ _ _ W hok (fun st h => h) h4 (hbody pre x b _ h1 hlt (Fx_sub hB))
    refine wpIn_mono h5 ?_
    rintro e a2 W2 ⟨st', hs', hk⟩
    cases e with
    | normal =>
      obtain ⟨st2, h6, b', env', F2, g1, g2, rfl⟩ := hk _ a2 W2 (by exact hkn) hs'
      refine ⟨⟨h6.wok.sz, fun k o hk0 ho hc => h6.wok.le k o (g2 k o (Fx_other hk0 ho hc))⟩, fun _ k o hk => h6.wok.le k o (g2 k o (Fx_sub hB k o hk)), b', g1, ?_⟩
      exact sat_swap h6 h2 (Nat.le_trans h2.wok.sz h6.wok.sz) rfl ((Fx_sub hB).trans g2) (fun k e he => ⟨h2.ids k e he, (hv (pre ++ [x]) b' k e g1 he).trans (hv pre b k e h1 he).symm⟩)
    | _ => exact hk.elim
  case done =>
    rintro D xs W hD hS ⟨b, h1, h2⟩ hK
    exact hdone D xs b W hD hS h1 h2 hK
  case stop =>
    rintro D cc pre W hD hSp h hK
    exact h.elim
end Go.TR
/-!
slices.Chunk over a slice of strings, two by two: the iterator's contract.
-/
namespace Go.Proofs.Ythkmfihbpbehfaa
set_option linter.unusedVariables false
set_option linter.unusedSimpArgs false
open Go.TR Go.RowKit Go.Shelf
attribute [local go_sem] Oper.semAt_some
/-- The first k of m. -/
def fst (m k : Nat) : List (Fin m) := (List.finRange m).take k
theorem fst_len {m k : Nat} (h : k ≤ m) : (fst m k).length = k := by unfold fst; rw [List.length_take, List.length_finRange]; omega
theorem fst_succ {m k : Nat} (hk : k < m) : fst m (k + 1) = fst m k ++ [⟨k, hk⟩] := by
  unfold fst
  rw [List.take_succ_eq_append_getElem (by simpa using hk)]
  simp
theorem Below.drewN' (n₀ : Nat) (w : World) (k : Nat) : Below n₀ w (w.drewN k) := ⟨rfl, rfl, rfl, Nat.le_refl _, fun _ _ => rfl⟩
set_option maxRecDepth 100000 in
set_option maxHeartbeats 2000000 in
theorem chunk1_in (F : Fence) (n : Nat) (hf : F.fn 183) (hro : F.round = none) (hn : 1 ≤ n) (l Bs Bn b off cap m : Nat) (Kp : World → World → Prop) (Kr : ∀ A, Kp A A) (Kt : ∀ A B C, Kp A B → Kp B C → Kp A C) (Kd : ∀ A k, Kp A (World.drewN A k)) (hm : 2 * m ≤ 4611686018427387904) (hcap : 2 * m ≤ cap) (p : Option Addr) (hp : 0 < m → p = some ⟨b, off, none⟩) (J Jx : List (Fin m) → World → Prop) (hJd : ∀ pre W k, J pre W → J pre (W.drewN k))
    (hY : ∀ pre x W, J pre W → pre.length < m → YieldAt F (n - 1) Try.prog l #[.slice (some ⟨b, off + 2 * x.val, none⟩) 2 2] W fun e W' =>
      (e = .returned (.bool true) ∧ J (pre ++ [x]) W' ∧ Kp W W') ∨ (e = .returned (.bool false) ∧ Jx (pre ++ [x]) W'))
    (W : World) (hBs : ∀ W', Kp W W' → W'.cell? ⟨Bs, 0, none⟩ = some (.slice p (2 * m) cap)) (hBn : ∀ W', Kp W W' → W'.cell? ⟨Bn, 0, none⟩ = some (.int .i64 2)) (h0 : J [] W) :
    CallsIn F n Try.prog 183 #[.func (.yield l) #[] #[], .pointer (some ⟨Bs, 0, none⟩), .pointer (some ⟨Bn, 0, none⟩)] W fun e W' => (∃ v, e = .returned v) ∧
      ((∃ ys, ys = fst m m ∧ J ys W') ∨ (∃ pre, (∃ k, k ≤ m ∧ pre = fst m k) ∧ Jx pre W')) := by
  refine callsIn_of_wp Try.func183 rfl hf ?_ hro
  simp only [Try.ntmps183, List.size_toArray, List.length_cons, List.length_nil, Nat.reduceAdd, Nat.reduceSub, Array.replicate_succ, Array.replicate_zero, List.push_toArray, List.append_toArray, List.nil_append, List.cons_append]
  gi_wp2
  gi_loopw [4] (fun i wr => ∃ k : Nat, k ≤ m ∧ i = .int .i64 ((2 * k : Nat) : Int) ∧ J (fst m k) wr ∧ Kp W wr)
    (fun i _ => (2 * m - (intOf i).toNat))
  case atStart =>
    refine ⟨0, Nat.zero_le _, rfl, h0, Kr _⟩
  case round =>
    obtain ⟨k, hk, hi, hJs, hnx⟩ := hrel
    subst hi
    have hBs' := hBs _ hnx
    have hBn' := hBn _ hnx
    by_cases hkm : k < m
    · obtain rfl := hp (by omega)
      have hlt : (((2 * k : Nat) : Int) < ((2 * m : Nat) : Int)) := by omega
      gi_wp2
      refine wpIn_region_quiet_lit hro mixed (by kernel_rfl) ?_
      repeat (gi_big_quiet_step (skip))
      refine wpQuietIn_nil ?_
      intro _ hw'
      obtain ⟨nq, hw''⟩ := hw'
      subst hw''
      have hnq : Kp W (wr.drewN nq) := Kt _ _ _ hnx (Kd wr nq)
      obtain ⟨fn, tmps, assign, body, hy, hR⟩ := hY _ ⟨k, hkm⟩ (wr.drewN nq) (hJd _ _ nq hJs) (by rw [fst_len hk]; omega)
      have hfs := fst_succ hkm
      gi_wp2
      refine hR.mono ?_
      rintro e W3 (⟨rfl, hJ3, hk3⟩ | ⟨rfl, hJx3⟩)
      · have hBn3 := hBn _ (Kt _ _ _ hnq hk3)
        gi_wp2
        go_roundw
        case rel => exact ⟨k + 1, by omega, by congr 1, by rw [hfs]; exact hJ3, Kt _ _ _ hnq hk3⟩
        case measure =>
          simp [intOf]
          omega
      · gi_wp2
        refine bodyPost_ret (results_none rfl _ _ _) rfl ?_
        exact ⟨⟨_, rfl⟩, .inr ⟨_, ⟨k + 1, by omega, hfs.symm⟩, hJx3⟩⟩
    · have hge : k = m := by omega
      subst hge
      gi_wp2
      go_end0
      exact ⟨⟨_, rfl⟩, .inl ⟨_, rfl, hJs⟩⟩
def cenc (b off m : Nat) (x : Fin m) : Value := .slice (some ⟨b, off + 2 * x.val, none⟩) 2 2
theorem chunk_stops (F : Fence) (n : Nat) (hf : F.fn 183) (hro : F.round = none) (hn : 1 ≤ n) (Bs Bn b off cap m : Nat) (hm : 2 * m ≤ 4611686018427387904) (hcap : 2 * m ≤ cap) (p : Option Addr) (hp : 0 < m → p = some ⟨b, off, none⟩) (H : Hp) (w : World) (hw : H.le w)
    (hBs : Fcell H ⟨Bs, 0, none⟩ = some (.slice p (2 * m) cap)) (hBn : Fcell H ⟨Bn, 0, none⟩ = some (.int .i64 2)) :
    SeqStopsK F n Try.prog 183 #[.pointer (some ⟨Bs, 0, none⟩), .pointer (some ⟨Bn, 0, none⟩)] (fun x => #[cenc b off m x]) (fun A B => H.le A → H.le B) (fun ys => ys = fst m m) (fun pre => ∃ k, k ≤ m ∧ pre = fst m k) m w := fun l J Jx W hW hA _ hY h0 => by
  have hle : H.le W := le_of_below hw (fun k o e => le_lt hw e) hW
  exact chunk1_in F n hf hro hn l Bs Bn b off cap m (fun A B => H.le A → H.le B) (fun _ h => h) (fun _ _ _ h1 h2 h => h2 (h1 h)) (fun _ _ h => h) hm hcap p hp J Jx (fun pre W' k hJ => hA pre W' (W'.drewN k) none hJ ⟨rfl, rfl, rfl, Nat.le_refl _, fun _ _ _ => rfl⟩ (fun r e => by cases e)) hY W
    (fun W' hk => Fcell.world (hk hle) hBs) (fun W' hk => Fcell.world (hk hle) hBn) h0
set_option maxHeartbeats 1000000 in
theorem chunk_alloc (p : Option Addr) (len cap : Nat) (w : World) : CallsIn Fence.wide 3 Try.prog 159 #[.slice p len cap, .int .i64 2] w fun e w' => e = .returned (.func (.func 183) #[] #[.pointer (some ⟨w.heap.size, 0, none⟩), .pointer (some ⟨w.heap.size + 1, 0, none⟩)]) ∧ w' = (w.alloc (.cells #[.slice p len cap] 84)).alloc (.cells #[.int .i64 2] 3) := by
  refine callsIn_of_wp Try.func159 rfl trivial ?_ rfl
  simp only [Try.ntmps159, List.size_toArray, List.length_cons, List.length_nil, Nat.reduceAdd, Nat.reduceSub, Array.replicate_succ, Array.replicate_zero, List.push_toArray, List.append_toArray, List.nil_append, List.cons_append]
  gi_wp2
  go_ret
  exact ⟨rfl, rfl⟩
theorem alloc_hp {F : Hp} {w : World} (hw : F.le w) (o : Obj) : F w.heap.size = none ∧ (F.plus w.heap.size o).le (w.alloc o) ∧ F.sub (F.plus w.heap.size o) := by
  have hb : F w.heap.size = none := by
    cases h : F w.heap.size with
    | none => rfl
    | some o => have := hw _ _ h; simp at this
  have hbl : Below w.heap.size w (w.alloc o) := (Below.refl _ w).alloc (Nat.le_refl _) _
  refine ⟨hb, fun k o1 e => ?_, fun k o1 e => ?_⟩
  · unfold Hp.plus at e
    split at e
    · rename_i hk
      cases e
      rw [hk]; exact World.alloc_heap_new w o
    · have := hw _ _ e
      rw [hbl.block k (Array.getElem?_eq_some_iff.1 this).1]; exact this
  · unfold Hp.plus
    rw [if_neg (by rintro rfl; rw [hb] at e; cases e)]
    exact e
theorem chunk_in (p : Option Addr) (len cap : Nat) (F : Hp) : CallF Try.prog F 159 [.slice p len cap, .int .i64 2] (fun x F' => ∃ b1 b2, x = .func (.func 183) #[] #[.pointer (some ⟨b1, 0, none⟩), .pointer (some ⟨b2, 0, none⟩)] ∧ Fcell F' ⟨b1, 0, none⟩ = some (.slice p len cap) ∧ Fcell F' ⟨b2, 0, none⟩ = some (.int .i64 2)) := by
  intro w hw
  refine (callsIn_wide.1 (chunk_alloc p len cap w)).mono ?_
  rintro e w' ⟨rfl, rfl⟩
  obtain ⟨h1, h2, h3⟩ := alloc_hp hw (.cells #[.slice p len cap] 84)
  obtain ⟨h4, h5, h6⟩ := alloc_hp h2 (.cells #[.int .i64 2] 3)
  have hs1 : (w.alloc (.cells #[.slice p len cap] 84)).heap.size = w.heap.size + 1 := by simp
  rw [hs1] at h4 h5 h6
  have hbl : Below w.heap.size w ((w.alloc (.cells #[.slice p len cap] 84)).alloc (.cells #[.int .i64 2] 3)) := ((Below.refl _ w).alloc (Nat.le_refl _) _).alloc (by rw [hs1]; omega) _
  refine ⟨_, _, [], rfl, h3.trans h6, h5, ⟨hbl.os, hbl.tape, hbl.output, hbl.size, fun k hk _ => hbl.block k hk⟩, ?_, ⟨fun id r h => by simp [lkR] at h, fun i j r s b h => by simp [lkR] at h⟩, fun id r b h => by simp [lkR] at h, rfl, _, _, rfl, ?_, ?_⟩
  · intro k hk
    unfold Hp.plus at hk
    split at hk
    · rename_i h; exact .inr (by omega)
    · split at hk
      · rename_i h; exact .inr (by omega)
      · exact .inl hk
  · simp [Fcell, Hp.plus]
  · simp [Fcell, Hp.plus]
end Go.Proofs.Ythkmfihbpbehfaa
