/-
A small program logic of our own for the model. Part n: cells that hold rows of the call's own; a callee that hands over a row, nil or not. Nothing here speaks of one program.
-/
import Derived.Test.YthkkgphjjmhglaaGreatDoorSetProofSay
import Derived.Test.YthkkgphjjmhglaaGreatDoorSetFwK
namespace Go.TR
set_option linter.unusedVariables false
set_option linter.unusedSimpArgs false
variable {P : Program} {tb : Tb} {N : Nat} {dr : Bool} {all rest : List Oper} {K : GEnv → St → Prop}
/-- A block's cells told of in another way. -/
theorem recell_sat {c : Ctx} {g : GEnv} {env : Env} {F : Hp} {rs : RL} {nx : Nat} {a : Act} {w : World} (h : GSat c N g ⟨env, F, rs, nx⟩ a w) {id b0 : Nat} {r : Blk} (hr : lkR rs id = some r) (hb : r.blk = some b0) {cells' : List EV} (hl : cells'.length ≤ r.cells.length)
    (hv : ∀ (j : Nat) (e' : EV), cells'[j]? = some e' → e'.lt nx ∧ ∀ x, e'.val rs = some x → ∃ e : EV, r.cells[j]? = some e ∧ e.val rs = some x) : GSat c N g ⟨env, F, setR rs id ⟨r.blk, cells', r.ty, r.cap⟩, nx⟩ a w := by
  have hown := h.wok.own.own id r hr
  have hval := fun e => val_setR (r' := ⟨r.blk, cells', r.ty, r.cap⟩) hr rfl e
  exact {
    size := h.size
    defers := h.defers
    wok := {
      le := h.wok.le
      own := {
        own := fun k' s hs => by
          rw [lkR_setR] at hs
          split at hs
          · rw [hr] at hs
            simp only [Option.map_some, Option.some.injEq] at hs
            subst hs
            rw [hb] at hown
            simp only [hb]
            obtain ⟨o1, o2, cur, o3, o4, o5⟩ := hown
            refine ⟨o1, Nat.le_trans hl o2, cur, o3, o4, fun j ev x hj hx => ?_⟩
            have hx' : ev.val rs = some x := by rw [← hval ev, ← hx, hb]
            obtain ⟨e, he1, he2⟩ := (hv j ev hj).2 x hx'
            exact o5 j e x he1 he2
          · have h1 := h.wok.own.own k' s hs
            cases hsb : s.blk with
            | none => rw [hsb] at h1; exact h1
            | some b' =>
              rw [hsb] at h1
              obtain ⟨g1, g2, cur', g3, g4, g5⟩ := h1
              exact ⟨g1, g2, cur', g3, g4, fun j ev x hj hx => g5 j ev x hj (by rw [← hval ev]; exact hx)⟩
        apart := fun i j s t b' hi hj hs ht => by
          rw [lkR_setR] at hi hj
          have conv : ∀ {k : Nat} {s : Blk}, (if k = id then (lkR rs id).map fun _ => (⟨r.blk, cells', r.ty, r.cap⟩ : Blk) else lkR rs k) = some s → s.blk = some b' → ∃ s', lkR rs k = some s' ∧ s'.blk = some b' := by
            intro k s hk hsb
            split at hk
            · rename_i hkid
              rw [hr] at hk
              simp only [Option.map_some, Option.some.injEq] at hk
              subst hk
              subst hkid
              exact ⟨r, hr, hsb⟩
            · exact ⟨s, hk, hsb⟩
          obtain ⟨s', hs1, hs2⟩ := conv hi hs
          obtain ⟨t', ht1, ht2⟩ := conv hj ht
          exact h.wok.own.apart i j s' t' b' hs1 ht1 hs2 ht2 }
      pres := h.wok.pres
      new := fun k s b' hs hsb => by
        rw [lkR_setR] at hs
        split at hs
        · rw [hr] at hs
          simp only [Option.map_some, Option.some.injEq] at hs
          subst hs
          exact h.wok.new id r b' hr (Blk.at_some hb hsb rfl)
        · exact h.wok.new k s b' hs hsb
      fnew := h.wok.fnew
      sz := h.wok.sz
      tp := h.wok.tp }
    hist := {
      sub := h.hist.sub
      nxle := h.hist.nxle
      succ := fun k s hk hs => by
        rw [lkR_setR] at hs
        split at hs
        · rename_i hkid
          subst hkid
          rw [hr] at hs
          simp only [Option.map_some, Option.some.injEq] at hs
          subst hs
          exact h.hist.succ k r hk hr
        · exact h.hist.succ k s hk hs }
    rids := fun k s hs => by
      simp only [lkR_setR] at hs
      split at hs
      · rename_i hkid
        rw [hr] at hs
        simp only [Option.map_some, Option.some.injEq] at hs
        subst hs
        obtain ⟨q1, q2⟩ := h.rids id r hr
        refine ⟨by rw [hkid]; exact q1, fun e he => ?_⟩
        obtain ⟨j, hj, rfl⟩ := List.mem_iff_getElem.1 he
        exact (hv j _ (List.getElem?_eq_getElem hj)).1
      · exact h.rids k s hs
    ids := h.ids
    env := fun n e x h1 h2 h3 => h.env n e x h1 h2 (by rw [← hval e]; exact h3)
    gv := fun n ch e h1 => by
      obtain ⟨q1, q2, q3, q4⟩ := h.gv n ch e h1
      exact ⟨fun hga => ⟨fun x hx => (q1 hga).1 x (by rw [← hval e]; exact hx), (q1 hga).2⟩, q2, q3, q4⟩ }
/-- Cell by cell the same values. -/
def reCells (nx : Nat) (rs : RL) : List EV → List EV → Prop
  | e :: l, e' :: l' => (e'.lt nx ∧ e.val rs = e'.val rs) ∧ reCells nx rs l l'
  | [], [] => True
  | _, _ => False
theorem reCells_get {nx : Nat} {rs : RL} : ∀ {l l' : List EV}, reCells nx rs l l' → l'.length = l.length ∧ ∀ (j : Nat) (e' : EV), l'[j]? = some e' → e'.lt nx ∧ ∃ e, l[j]? = some e ∧ e.val rs = e'.val rs
  | [], [], _ => ⟨rfl, fun j e' h => by simp at h⟩
  | [], _ :: _, h => h.elim
  | _ :: _, [], h => h.elim
  | e :: l, e1 :: l', h => by
    obtain ⟨h1, h2⟩ := reCells_get h.2
    refine ⟨by simp [h1], fun j e' hj => ?_⟩
    cases j with
    | zero =>
      simp only [List.getElem?_cons_zero, Option.some.injEq] at hj
      subst hj
      exact ⟨h.1.1, e, rfl, h.1.2⟩
    | succ j => exact h2 j e' (by simpa using hj)
theorem VS.recell {env : Env} {F : Hp} {rs rs' : RL} {nx : Nat} {G : St → Prop} (id : Nat) {b0 : Nat} {cells : List EV} {ty : TypeId} {cap : Nat} (cells' : List EV) (hr : lkR rs id = some ⟨some b0, cells, ty, cap⟩) (hc : reCells nx rs cells cells')
    (hrs : forceL (setR rs id ⟨some b0, cells', ty, cap⟩) = some rs') (k : VS N [] ⟨env, F, rs', nx⟩ G) : VS N [] ⟨env, F, rs, nx⟩ G := fun c a w hs => by
  rw [forceL_eq, Option.some.injEq] at hrs
  subst hrs
  obtain ⟨h1, h2⟩ := reCells_get hc
  refine k c a w (recell_sat hs hr rfl (cells' := cells') (by rw [h1]; exact Nat.le_refl _) fun j e' hj => ?_)
  obtain ⟨h3, e, h4, h5⟩ := h2 j e' hj
  exact ⟨h3, fun x hx => ⟨e, h4, h5.trans hx⟩⟩
/-- The nil slice as a row without a block: a name for it. -/
theorem VS.addnil {env : Env} {F : Hp} {rs : RL} {nx : Nat} {G : St → Prop} (ty : TypeId) (k : VS N [] ⟨env, F, (nx, ⟨none, [], ty, 0⟩) :: rs, nx + 1⟩ G) : VS N [] ⟨env, F, rs, nx⟩ G := by
  intro c a w hs
  have hne : ∀ id r, lkR rs id = some r → id ≠ nx := fun id r hr => by have := (hs.rids id r hr).1; simp only at this; omega
  refine k c a w ?_
  exact {
    size := hs.size
    defers := hs.defers
    wok := {
      le := hs.wok.le
      own := {
        own := fun id r hr => by
          rw [lkR_cons] at hr
          split at hr
          · simp only [Option.some.injEq] at hr
            subst hr
            exact ⟨.inl rfl, rfl⟩
          · have h1 := hs.wok.own.own id r hr
            cases hb : r.blk with
            | none => rw [hb] at h1; exact h1
            | some b =>
              rw [hb] at h1
              obtain ⟨g1, g2, cur, g3, g4, g5⟩ := h1
              refine ⟨g1, g2, cur, g3, g4, fun j ev x hj hx => ?_⟩
              rw [val_cons ((hs.rids id r hr).2 ev (List.mem_of_getElem? hj))] at hx
              exact g5 j ev x hj hx
        apart := fun i j r s b hi hj hb hs' => by
          rw [lkR_cons] at hi hj
          split at hi
          · simp only [Option.some.injEq] at hi; subst hi; cases hb
          · split at hj
            · simp only [Option.some.injEq] at hj; subst hj; cases hs'
            · exact hs.wok.own.apart i j r s b hi hj hb hs' }
      pres := hs.wok.pres
      new := fun id r b hr hb => by
        rw [lkR_cons] at hr
        split at hr
        · simp only [Option.some.injEq] at hr; subst hr; rcases hb with hb | ⟨_, _, hb⟩ <;> cases hb
        · exact hs.wok.new id r b hr hb
      fnew := hs.wok.fnew
      sz := hs.wok.sz
      tp := hs.wok.tp }
    hist := hs.hist.cons _
    rids := fun id r hr => by
      simp only [lkR_cons] at hr
      split at hr
      · simp only [Option.some.injEq] at hr
        subst hr
        exact ⟨by simp only; omega, fun e he => by cases he⟩
      · obtain ⟨h1, h2⟩ := hs.rids id r hr
        exact ⟨by simp only at h1 ⊢; omega, fun e he => (h2 e he).mono (Nat.le_succ _)⟩
    ids := fun n e he => (hs.ids n e he).mono (Nat.le_succ _)
    env := fun n e x hg he hx => by
      rw [val_cons (hs.ids n e he)] at hx
      exact hs.env n e x rfl he hx
    gv := fun n ch e he => by simp [lkG] at he }
/-- What comes back is a row of the caller's own, nil or not. -/
def RowOr (e : TypeId) (size : Nat) (cs : List Value) (n : Nat) (x : Value) (new : RL) : Prop :=
  ∃ (blk : Option Nat) (c : Nat), n ≤ c ∧ (blk = none → n = 0 ∧ c = 0) ∧ new = [(0, ⟨blk, cs.map .v, e, c * size⟩)] ∧ x = .slice (blk.map fun b => ⟨b, 0, none⟩) n c
theorem s_callN {d : Nat} {f : Operand} {args : Array Operand} {ts : Array TypeId} {n : FuncId} {first captured : Array Value} {xs ys : List Value} {ty : TypeId} {pos : String} {af : Array Edge} {env : Env} {F : Hp} {rs : RL} {nx : Nat} {e : TypeId} {size k : Nat} {Q : Value → Hp → RL → Prop} {R : Hp → List Value → Prop} (hQ : ∀ x F' new, Q x F' new → ∃ cs, RowOr e size cs k x new ∧ R F' cs)
    (hf : opd rs [] env [] f = some (.v (.func (.func n) first captured))) (hx : vals rs (opd rs [] env []) args.toList = some xs) (hy' : forceL (first.toList ++ xs ++ captured.toList) = some ys) (hb : bodied P n) (hd : Nat.blt d N = true) (hc : CallOK P F n ys Q)
    (k1 : ∀ F' blk c cs, F.sub F' → k ≤ c → (blk = none → k = 0 ∧ c = 0) → R F' cs → vcOps P tb N false all rest K [] ⟨(d, .row nx 0 k c) :: env, F', (nx, ⟨blk, cs.map .v, e, c * size⟩) :: rs, nx + 1⟩) :
    vcOps P tb N false all (⟨some d, .call ⟨.value f, args, ts⟩, ty, pos, af, none⟩ :: rest) K [] ⟨env, F, rs, nx⟩ :=
  s_call hf hx hy' hb hd hc fun x F' new h1 h2 => by
    obtain ⟨cs, ⟨blk, c, h5, h6, rfl, rfl⟩, h4⟩ := hQ x F' new h2
    refine ⟨1, .row 0 0 k c, fun id r h => ?_, by simp only [EV.val, lkR_cons, if_true], ?_⟩
    · rw [lkR_cons] at h
      split at h
      · rename_i h0
        simp only [Option.some.injEq] at h
        subst h h0
        refine ⟨Nat.zero_lt_one, fun e he => ?_⟩
        obtain ⟨u, _, rfl⟩ := List.mem_map.1 he
        trivial
      · simp [lkR] at h
    · have e1 : (cs.map EV.v).map (shiftE nx) = cs.map EV.v := by rw [List.map_map]; rfl
      have := k1 F' blk c cs h1 h5 h6 h4
      simp only [shiftE, shiftR, shiftB, List.map_cons, List.map_nil, Nat.add_zero, e1, List.cons_append, List.nil_append]
      exact this
/-- A row that comes back, nil or not: frozen. -/
theorem CallOK.frzN {P : Program} {F : Hp} {f : FuncId} {args : List Value} {e : TypeId} {size n : Nat} {R : Hp → List Value → Prop} (hR : ∀ F F' cs, F.sub F' → R F cs → R F' cs) (hn : ∀ F cs, n = 0 → R F cs → cs = []) (h : CallOK P F f args fun x F' new => ∃ cs, RowOr e size cs n x new ∧ R F' cs) : CallF P F f args fun x F' => ∃ p c cs, x = .slice p n c ∧ n ≤ c ∧ Frow F' p cs ∧ R F' cs := fun w hw => by
  refine (h w hw).mono fun ex w' hh => ?_
  obtain ⟨x, F', new, h1, h2, h3, h4, h5, h6, h7, cs, ⟨blk, c, h10, hb, rfl, rfl⟩, h8⟩ := hh
  have nil : Owned F' [] w' := ⟨fun id r hr => by simp [lkR] at hr, fun i j r s b hi => by simp [lkR] at hi⟩
  cases blk with
  | none =>
    obtain ⟨e1, e2⟩ := hb rfl
    subst e1 e2
    exact ⟨_, F', [], h1, h2, h3, h4, h5, nil, fun id r b hr => by simp [lkR] at hr, rfl, none, 0, cs, rfl, Nat.le_refl _, by rw [hn F' cs rfl h8]; intro j u hj; simp at hj, h8⟩
  | some b =>
    have hown := h6.own 0 _ (by rw [lkR_cons, if_pos rfl])
    simp only at hown
    obtain ⟨g1, g2, cur, g3, g4, g5⟩ := hown
    have hbn : w.heap.size ≤ b := h7 0 _ b (by rw [lkR_cons, if_pos rfl]) (.inl rfl)
    have hsub : F'.sub fun k => if k = b then some (.cells cur e (0, 0)) else F' k := fun k o hk => by
      simp only
      rw [if_neg (fun hkb => by rw [hkb, g1] at hk; cases hk)]
      exact hk
    refine ⟨_, fun k => if k = b then some (.cells cur e (0, 0)) else F' k, [], h1, h2.trans hsub, fun k o hk => ?_, h4, fun k hk => ?_, ⟨fun id r hr => by simp [lkR] at hr, fun i j r s b hi => by simp [lkR] at hi⟩, fun id r b hr => by simp [lkR] at hr, rfl, _, c, cs, rfl, h10, fun j u hj => ?_, hR _ _ _ hsub h8⟩
    · simp only at hk
      split at hk
      · rename_i hkb
        subst hkb
        rw [← hk]; exact g3
      · exact h3 k o hk
    · simp only at hk
      split at hk
      · rename_i hkb
        subst hkb
        exact .inr hbn
      · exact h5 k hk
    · have hc := g5 j (.v u) u (by rw [List.getElem?_map, hj]; rfl) rfl
      cases j with
      | zero => simpa [Pcell, padd, Fcell, Addr.add] using hc
      | succ j => simpa [Pcell, padd, Fcell, Addr.add] using hc
end Go.TR
