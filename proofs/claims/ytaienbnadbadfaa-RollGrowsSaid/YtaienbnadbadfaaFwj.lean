/-
A small program logic of our own for the model. Part j: calls that hand memory over; lists of operations; code; a function's contract. Nothing here speaks of one program.
-/
import Derived.Test.YtaienbnadbadfaaFwr
namespace Go.TR
variable {P : Program} {tb : Tb} {N : Nat}

theorem lkR_append (l1 l2 : RL) (id : Nat) : lkR (l1 ++ l2) id = match lkR l1 id with | some r => some r | none => lkR l2 id := by
  induction l1 with
  | nil => rfl
  | cons p l1 ih =>
    obtain ⟨m, r⟩ := p
    rw [List.cons_append, lkR_cons, lkR_cons, ih]
    by_cases h : id = m <;> simp [h]
theorem lkR_shift (n : Nat) (new : RL) (id : Nat) : lkR (shiftR n new) id = if n ≤ id then (lkR new (id - n)).map (shiftB n) else none := by
  induction new with
  | nil => simp [shiftR, lkR]
  | cons p new ih =>
    obtain ⟨m, r⟩ := p
    have ih' : lkR (List.map (fun x => (n + x.1, shiftB n x.2)) new) id = if n ≤ id then (lkR new (id - n)).map (shiftB n) else none := ih
    simp only [shiftR, List.map_cons]
    rw [lkR_cons, ih', lkR_cons]
    by_cases h : id = n + m
    · subst h
      rw [if_pos rfl, if_pos (by omega), if_pos (by omega)]
      rfl
    · rw [if_neg h]
      by_cases h2 : n ≤ id
      · rw [if_pos h2, if_pos h2, if_neg (by omega)]
      · rw [if_neg h2, if_neg h2]
theorem lkR_new {nx : Nat} {new rs : RL} {id : Nat} (h : nx ≤ id) (hr : ∀ id r, lkR rs id = some r → id < nx) : lkR (shiftR nx new ++ rs) id = (lkR new (id - nx)).map (shiftB nx) := by
  rw [lkR_append, lkR_shift, if_pos h]
  cases hl : lkR new (id - nx) with
  | some r => rfl
  | none =>
    simp only [Option.map_none]
    cases hk : lkR rs id with
    | none => rfl
    | some r => have := hr id r hk; omega
theorem lkR_old {nx : Nat} {new rs : RL} {id : Nat} (h : id < nx) : lkR (shiftR nx new ++ rs) id = lkR rs id := by
  rw [lkR_append, lkR_shift, if_neg (by omega)]
theorem val_old {nx : Nat} {new rs : RL} {e : EV} (h : e.lt nx) : e.val (shiftR nx new ++ rs) = e.val rs := by
  cases e with
  | v x => rfl
  | loc id o => simp only [EV.lt] at h; simp only [EV.val, lkR_old h]
  | row id o n c => simp only [EV.lt] at h; simp only [EV.val, lkR_old h]
theorem val_new {nx : Nat} {new rs : RL} (hr : ∀ id r, lkR rs id = some r → id < nx) (e : EV) : (shiftE nx e).val (shiftR nx new ++ rs) = e.val new := by
  cases e with
  | v x => rfl
  | loc id o =>
    simp only [shiftE, EV.val, lkR_new (Nat.le_add_right nx id) hr, Nat.add_sub_cancel_left]
    cases lkR new id <;> rfl
  | row id o n c =>
    simp only [shiftE, EV.val, lkR_new (Nat.le_add_right nx id) hr, Nat.add_sub_cancel_left]
    cases lkR new id <;> rfl
theorem lt_shift {nx m : Nat} {e : EV} (h : e.lt m) : (shiftE nx e).lt (nx + m) := by
  cases e <;> simp only [shiftE, EV.lt] at * <;> omega

/-- The state behind a call that handed memory over. -/
theorem hand_sat {c : Ctx} {g : GEnv} {env : Env} {F F' : Hp} {rs new : RL} {nx m : Nat} {a : Act} {w w' : World} (h : GSat c N g ⟨env, F, rs, nx⟩ a w) (hsub : F.sub F') (hle : F'.le w') (hp : Pres [] w w') (hfn : FNew F F' w.heap.size)
    (hown : Owned F' new w') (hnb : ∀ id r b, lkR new id = some r → r.blk = some b → w.heap.size ≤ b) (hm : ∀ id r, lkR new id = some r → id < m ∧ ∀ e ∈ r.cells, e.lt m) : GSat c N g ⟨env, F', shiftR nx new ++ rs, nx + m⟩ a w' := by
  have hrl : ∀ id r, lkR rs id = some r → id < nx := fun id r hr => (h.rids id r hr).1
  have cases' : ∀ id r, lkR (shiftR nx new ++ rs) id = some r → (id < nx ∧ lkR rs id = some r) ∨ (nx ≤ id ∧ ∃ r0, lkR new (id - nx) = some r0 ∧ r = shiftB nx r0) := fun id r hr => by
    by_cases hid : id < nx
    · rw [lkR_old hid] at hr; exact .inl ⟨hid, hr⟩
    · have hid' : nx ≤ id := by omega
      rw [lkR_new hid' hrl, Option.map_eq_some_iff] at hr
      obtain ⟨r0, h1, h2⟩ := hr
      exact .inr ⟨hid', r0, h1, h2.symm⟩
  have hw := h.wok.pres' hp
  exact {
    size := h.size
    defers := h.defers
    wok := {
      le := hle
      own := {
        own := fun id r hr => by
          rcases cases' id r hr with ⟨hid, hr'⟩ | ⟨hid, r0, hr0, rfl⟩
          · have h1 := hw.own.own id r hr'
            cases hb : r.blk with
            | none => rw [hb] at h1; exact h1
            | some b =>
              rw [hb] at h1
              obtain ⟨g1, g2, cur, g3, g4, g5⟩ := h1
              have hbl := h.wok.own.lt hr' hb
              refine ⟨?_, g2, cur, g3, g4, fun j ev x hj hx => g5 j ev x hj ?_⟩
              · show F' b = none
                cases hf : F' b with
                | none => rfl
                | some o =>
                  have g1' : F b = none := g1
                  rcases hfn b (by simp [hf]) with h' | h'
                  · rw [g1'] at h'; cases h'
                  · omega
              · rw [val_old ((h.rids id r hr').2 ev (List.mem_of_getElem? hj))] at hx
                exact hx
          · have h1 := hown.own (id - nx) r0 hr0
            simp only [shiftB]
            cases hb : r0.blk with
            | none => rw [hb] at h1; exact ⟨by rw [h1.1]; rfl, h1.2⟩
            | some b =>
              rw [hb] at h1
              obtain ⟨g1, g2, cur, g3, g4, g5⟩ := h1
              refine ⟨g1, by rw [List.length_map]; exact g2, cur, g3, g4, fun j ev x hj hx => ?_⟩
              rw [List.getElem?_map, Option.map_eq_some_iff] at hj
              obtain ⟨ev0, hj0, rfl⟩ := hj
              rw [val_new hrl] at hx
              exact g5 j ev0 x hj0 hx
        apart := fun i j r s b hi hj hb hs => by
          rcases cases' i r hi with ⟨hid, hr'⟩ | ⟨hid, r0, hr0, rfl⟩ <;> rcases cases' j s hj with ⟨hjd, hs'⟩ | ⟨hjd, s0, hs0, rfl⟩
          · exact h.wok.own.apart i j r s b hr' hs' hb hs
          · have h1 := h.wok.own.lt hr' hb
            have h2 := hnb _ s0 b hs0 hs
            omega
          · have h1 := h.wok.own.lt hs' hs
            have h2 := hnb _ r0 b hr0 hb
            omega
          · have := hown.apart _ _ r0 s0 b hr0 hs0 hb hs
            omega }
      pres := hw.pres
      new := fun id r b hr hb => by
        rcases cases' id r hr with ⟨hid, hr'⟩ | ⟨hid, r0, hr0, rfl⟩
        · exact h.wok.new id r b hr' hb
        · have h1 := hnb _ r0 b hr0 hb
          have h2 := h.wok.pres.size
          omega
      fnew := fun k hk => by
        rcases hfn k hk with h' | h'
        · exact h.wok.fnew k h'
        · have h2 := h.wok.pres.size
          right; omega }
    hist := {
      sub := h.hist.sub.trans hsub
      nxle := Nat.le_trans h.hist.nxle (Nat.le_add_right _ _)
      succ := fun id r hid hr => by
        have := h.hist.nxle
        rcases cases' id r hr with ⟨_, hr'⟩ | ⟨hge, _⟩
        · exact h.hist.succ id r hid hr'
        · simp only at this; omega }
    rids := fun id r hr => by
      rcases cases' id r hr with ⟨hid, hr'⟩ | ⟨hid, r0, hr0, rfl⟩
      · obtain ⟨h1, h2⟩ := h.rids id r hr'
        exact ⟨by simp only at h1 ⊢; omega, fun e he => (h2 e he).mono (Nat.le_add_right _ _)⟩
      · obtain ⟨h1, h2⟩ := hm _ r0 hr0
        refine ⟨by simp only; omega, fun e he => ?_⟩
        simp only [shiftB, List.mem_map] at he
        obtain ⟨e0, he0, rfl⟩ := he
        exact lt_shift (h2 e0 he0)
    ids := fun n e he => (h.ids n e he).mono (Nat.le_add_right _ _)
    env := fun n e x hg he hx => by
      rw [val_old (h.ids n e he)] at hx
      exact h.env n e x hg he hx
    gv := fun n ch e hg => by
      obtain ⟨h1, h2, h3, h4⟩ := h.gv n ch e hg
      refine ⟨fun hA => ⟨fun x hx => (h1 hA).1 x ?_, (h1 hA).2⟩, h2, h3.mono (Nat.le_add_right _ _), h4⟩
      rw [val_old h3] at hx
      exact hx }
theorem lt_of_val' {new : RL} {m : Nat} (hm : ∀ id r, lkR new id = some r → id < m ∧ ∀ e ∈ r.cells, e.lt m) {e : EV} {x : Value} (h : e.val new = some x) : e.lt m := by
  cases e with
  | v _ => trivial
  | loc id o =>
    simp only [EV.val] at h
    split at h
    · rename_i r hl; exact (hm _ _ hl).1
    · simp at h
  | row id o n c =>
    simp only [EV.val] at h
    split at h
    · rename_i r hl; exact (hm _ _ hl).1
    · simp at h
theorem callEff_wp {c : Ctx} {g : GEnv} {st : St} {a : Act} {w : World} (h : GSat c N g st a w) {o : Oper} {f : Operand} {args : Array Operand} {ts : Array TypeId} (ho : o.op = .call ⟨.value f, args, ts⟩)
    {n : FuncId} {first captured : Array Value} {xs : List Value} (hf : opd st.rs g st.env [] f = some (.v (.func (.func n) first captured))) (hx : vals st.rs (opd st.rs g st.env []) args.toList = some xs) (hb : bodied P n)
    {K : GEnv → St → Prop} {Q : Exit → Act → World → Prop} {K' : Act → World → Prop} (hK : ∀ g' st' a' w', GSat c N g' st' a' w' → K g' st' → K' a' w')
    (hk : callEff P N n (first.toList ++ xs ++ captured.toList) o.dst K g st) : o.wp P a w K' Q := by
  have hF := fits_opd h (gA_nil a)
  have e1 := hF _ _ hf
  simp only [EV.val, Option.some.injEq] at e1
  have e2 := vals_ok hF hx
  have e3 : first ++ args.map a.eval ++ captured = (first.toList ++ xs ++ captured.toList).toArray := by
    apply Array.ext'
    simp [← e2]
  clear hF e1
  have hf' : a.eval f = .func (.func n) first captured := by
    have := fits_opd h (gA_nil a) _ _ hf
    simp only [EV.val, Option.some.injEq] at this
    exact this.symm
  unfold Oper.wp
  rw [run_call ho hf' hb, Oper.upon_enter, e3]
  obtain ⟨st, h, QQ, hc, hq⟩ := hk c a w h
  refine (hc w h.wok.le).mono fun e w' ⟨x, F', new, he, hsub, hle, hp, hfn, hown, hnb, hQ⟩ => ?_
  subst he
  obtain ⟨m, ev, hm, hv, hput⟩ := hq x F' new hsub hQ
  obtain ⟨env, F, rs, nx⟩ := st
  have hs := hand_sat h hsub hle hp hfn hown hnb hm
  have hrl : ∀ id r, lkR rs id = some r → id < nx := fun id r hr => (h.rids id r hr).1
  obtain ⟨g', st', h1, _, _, _, h2, _⟩ := putV_sat hs (ch := []) (e := shiftE nx ev) (v := x) (lt_shift (lt_of_val' hm hv)) (fun _ => by rw [val_new hrl]; exact hv) (fun _ => trivial) (chfree_nil _ _) hput
  exact hK _ _ _ _ (h2 (gA_nil a)) h1

/-! ### Lists of operations, in the text's order -/
/-- An operation that is quiet whether or not the region draws. -/
theorem quiet_wp {c : Ctx} {g : GEnv} {st : St} {a : Act} {w : World} (h : GSat c N g st a w) {ch : Chain} {o : Oper} {e : EV} {v : Value} (hq : Quiet P st ch a o e v) (hA : gA ch a) {K' : Act → World → Prop} {Q : Exit → Act → World → Prop}
    (hk : ∀ w', C c st w' → K' (a.put o.dst v) w') : o.wp P a w K' Q :=
  Oper.wp_of_quiet (C := C c st) (K := fun a' => a' = a.put o.dst v) h.wok (fun a' w' hw' e => by subst e; exact hk w' hw') ⟨v, hq.run hA _ (rd_wok c st), rfl⟩

/-- An operation that no open guard holds back, in the text's order. -/
theorem op_plain (htb : TbOK P tb) {c : Ctx} {g : GEnv} {st : St} {a : Act} {w : World} (h : GSat c N g st a w) {ch : Chain} (hA : gA ch a) (hgp : gA ch a → gP ch) (hfree : ChFree g st.env ch) {o : Oper} {K : GEnv → St → Prop} {Q : Exit → Act → World → Prop} {K' : Act → World → Prop}
    (ih : ∀ g' st' a' w', GSat c N g' st' a' w' → K g' st' → K' a' w') (hop : opV P tb N false ch o.dst K g st o.op) : o.wp P a w K' Q := by
    have quiet : opV P tb N true ch o.dst K g st o.op → o.wp P a w K' Q := fun hop' => by
      obtain ⟨e, v, hq, hp⟩ := quiet_op htb h hgp hop'
      obtain ⟨g', st', hKK, hF, hrs, _, h1, h2⟩ := putV_sat h hq.lt hq.val hgp hfree hp
      refine quiet_wp h hq hA fun w' hw' => ?_
      refine ih g' st' _ w' ((h1 hA).world ?_) hKK
      unfold C at hw' ⊢
      rw [hF, hrs]; exact hw'
    have eff : ch = [] → o.wp P a w K' Q → o.wp P a w K' Q := fun _ hw => hw
    cases ho : o.op with
    | call cc =>
      obtain ⟨callee, args, ts⟩ := cc
      cases callee with
      | value f =>
        cases ch with
        | cons c0 ch =>
          refine quiet ?_
          rw [ho] at hop ⊢
          simp only [opV] at hop ⊢
          unfold callGo at hop ⊢
          split at hop
          · rename_i hf hx
            simp only [callV] at hop ⊢
            exact hop
          · exact hop.elim
        | nil =>
          refine eff rfl ?_
          rw [ho] at hop
          simp only [opV] at hop
          unfold callGo at hop
          split at hop
          · rename_i n first captured xs hf hx
            simp only [callV] at hop
            exact callEff_wp h ho hf hx hop.1 ih hop.2
          · exact hop.elim
      | builtin b => exact quiet (by rw [ho] at hop ⊢; exact hop)
      | invoke r m => rw [ho] at hop; exact hop.elim
    | alloc t =>
      rw [ho] at hop
      simp only [opV] at hop
      exact eff hop.2.1 (alloc_wp htb h ho ih hop.2.2)
    | box t x =>
      rw [ho] at hop
      simp only [opV] at hop
      obtain ⟨_, rfl, hop⟩ := hop
      exact eff rfl (box_wp h ho ih hop)
    | buildSlice t n ps =>
      rw [ho] at hop
      simp only [opV] at hop
      obtain ⟨_, rfl, hop⟩ := hop
      exact eff rfl (bslice_wp htb h ho ih hop)
    | store t x y =>
      rw [ho] at hop
      simp only [opV] at hop
      obtain ⟨_, rfl, hd, hop⟩ := hop
      exact eff rfl (store_wp htb h ho hd ih hop)
    | pick x y z => exact quiet (by rw [ho] at hop ⊢; cases x <;> exact hop)
    | load t x => exact quiet (by rw [ho] at hop ⊢; exact hop)
    | move x => exact quiet (by rw [ho] at hop ⊢; exact hop)
    | assign x => exact quiet (by rw [ho] at hop ⊢; exact hop)
    | build _ _ => exact quiet (by rw [ho] at hop ⊢; exact hop)
    | nilCheck _ => exact quiet (by rw [ho] at hop ⊢; exact hop)
    | binOp _ _ _ _ _ => exact quiet (by rw [ho] at hop ⊢; exact hop)
    | unOp _ _ _ => exact quiet (by rw [ho] at hop ⊢; exact hop)
    | convert _ _ _ => exact quiet (by rw [ho] at hop ⊢; exact hop)
    | makeFunc _ _ _ => exact quiet (by rw [ho] at hop ⊢; exact hop)
    | slice _ _ _ _ _ => exact quiet (by rw [ho] at hop ⊢; exact hop)
    | fieldAddr _ _ _ => exact quiet (by rw [ho] at hop ⊢; exact hop)
    | field _ _ _ => exact quiet (by rw [ho] at hop ⊢; exact hop)
    | indexAddr _ _ _ => exact quiet (by rw [ho] at hop ⊢; exact hop)
    | index _ _ _ => exact quiet (by rw [ho] at hop ⊢; exact hop)
    | extract _ _ => exact quiet (by rw [ho] at hop ⊢; exact hop)
    | _ => rw [ho] at hop; exact hop.elim

theorem opX_wp (htb : TbOK P tb) {c : Ctx} {g : GEnv} {st : St} {a : Act} {w : World} (h : GSat c N g st a w) {o : Oper} {K : GEnv → St → Prop} {Q : Exit → Act → World → Prop} {K' : Act → World → Prop}
    (hK : ∀ g' st' a' w', GSat c N g' st' a' w' → K g' st' → K' a' w') (hk : opX P tb N false o.dst K g st o.op) : o.wp P a w K' Q := by
  rcases hk with hk | ⟨_, hk⟩ | ⟨_, hk⟩
  · exact op_plain htb h (gA_nil a) (fun _ => trivial) (chfree_nil _ _) hK hk
  · exact mem_wp htb h hK hk
  · obtain ⟨st', h1, hk | hk | hk⟩ := hk c a w h
    · exact op_plain htb h1 (gA_nil a) (fun _ => trivial) (chfree_nil _ _) hK hk
    · exact mem_wp htb h1 hK hk
    · exact sem_wp h1 hK hk
/-- One operation of a region in the text's order. -/
theorem plain_step (htb : TbOK P tb) {c : Ctx} {g : GEnv} {st : St} {a : Act} {w : World} (h : GSat c N g st a w) {ops : Array Oper} {o : Oper} {K : GEnv → St → Prop} {Q : Exit → Act → World → Prop} {K' : Act → World → Prop}
    (hK : ∀ g' st' a' w', GSat c N g' st' a' w' → K g' st' → K' a' w') (hk : stepV P tb N false ops.toList o.op o.dst K g st o.guard) :
    (Region.wanted o (yielded ops a.tmps) = true → o.wp P a w K' Q) ∧ (¬ Region.wanted o (yielded ops a.tmps) = true → K' (a.put o.dst undef) w) := by
  cases hg : o.guard with
  | none =>
    rw [hg] at hk
    have hw : Region.wanted o (yielded ops a.tmps) = true := by simp only [Region.wanted, hg]
    exact ⟨fun _ => opX_wp htb h hK hk, fun hn => absurd hw hn⟩
  | some jw =>
    obtain ⟨j, want⟩ := jw
    rw [hg] at hk
    rcases hk with hk | hk
    · obtain ⟨ch, hG, h2, h3⟩ := guarded_some h hg hk
      refine ⟨fun hw => op_plain htb h (hG.wanted.1 hw) hG.gp hG.free hK h2, fun hn => ?_⟩
      have hA : ¬ gA ch a := fun hA => hn (hG.wanted.2 hA)
      -- what is guarded is quiet
      have quiet : opV P tb N true ch o.dst K g st o.op := by
        cases ho : o.op with
        | call cc =>
          obtain ⟨callee, args, ts⟩ := cc
          cases callee with
          | value f =>
            cases ch with
            | nil => exact absurd rfl h3
            | cons c0 ch =>
              rw [ho] at h2
              simp only [opV] at h2 ⊢
              unfold callGo at h2 ⊢
              split at h2
              · simp only [callV] at h2 ⊢
                exact h2
              · exact h2.elim
          | builtin b => rw [ho] at h2; exact h2
          | invoke r m => rw [ho] at h2; exact h2.elim
        | alloc t => rw [ho] at h2; simp only [opV] at h2; exact absurd h2.2.1 h3
        | box t x => rw [ho] at h2; simp only [opV] at h2; exact absurd h2.2.1 h3
        | buildSlice t n ps => rw [ho] at h2; simp only [opV] at h2; exact absurd h2.2.1 h3
        | store t x y => rw [ho] at h2; simp only [opV] at h2; exact absurd h2.2.1 h3
        | pick x y z => rw [ho] at h2; cases x <;> exact h2
        | _ => rw [ho] at h2; exact h2
      obtain ⟨e, v, hq, hp⟩ := quiet_op htb h hG.gp quiet
      obtain ⟨g', st', hKK, hF, hrs, _, h1, h4⟩ := putV_sat h hq.lt hq.val hG.gp hG.free hp
      exact hK _ _ _ _ (h4 hA) hKK
    · rcases guarded_known h hg hk with ⟨hw, hk⟩ | ⟨hw, hk⟩
      · exact ⟨fun _ => opX_wp htb h hK hk, fun hn => absurd hw hn⟩
      · obtain ⟨g', st', h1, _, _, _, h2⟩ := skip_sat h hk
        exact ⟨fun hn => absurd hn hw, fun _ => hK _ _ _ _ h2 h1⟩
theorem ops_plain (htb : TbOK P tb) {c : Ctx} {ops : Array Oper} {K : GEnv → St → Prop} {Q : Exit → Act → World → Prop} (hQ : ∀ g st a w, GSat c N g st a w → K g st → Q .normal a w) : ∀ (l : List Oper) (g : GEnv) (st : St) (a : Act) (w : World), GSat c N g st a w →
    vcOps P tb N false ops.toList l K g st → wpList P ops Q l a w
  | [], g, st, a, w, h, hk => hQ g st a w h hk
  | o :: l, g, st, a, w, h, hk => by
    have hs := plain_step htb (ops := ops) (o := o) (Q := Q) (K' := wpList P ops Q l) h (fun g' st' a' w' h1 h2 => ops_plain htb hQ l g' st' a' w' h1 h2) hk
    unfold wpList
    split
    · rename_i hw
      exact .inl (hs.1 hw)
    · rename_i hw
      exact hs.2 hw
end Go.TR
