/-
A small program logic of our own for the model. Part g: what it means that a state of the evaluator fits the machine's; one quiet operation. Nothing here speaks of one program.
-/
import Derived.Test.YtaienbnadbadfaaFwf
namespace Go.TR
variable {P : Program} {tb : Tb} {N : Nat}

theorem GSat.drop {c : Ctx} {g : GEnv} {st : St} {a : Act} {w : World} (h : GSat c N g st a w) : Sat c N st a w where
  size := h.size
  defers := h.defers
  wok := h.wok
  hist := h.hist
  rids := h.rids
  ids := h.ids
  env := fun n e x _ h1 h2 => by
    cases hg : lkG g n with
    | none => exact h.env n e x hg h1 h2
    | some p =>
      obtain ⟨ch, e'⟩ := p
      have := (h.gv n ch e' hg).2.2.2
      rw [this] at h1; cases h1
  gv := fun n ch e h => by simp [lkG] at h

theorem lkG_cons (n m : Nat) (c : Chain) (v : EV) (t : GEnv) : lkG ((m, c, v) :: t) n = if n = m then some (c, v) else lkG t n := by
  simp only [lkG]
  by_cases h : n = m
  · subst h; simp
  · rw [if_neg h, show Nat.beq n m = false from (by cases hb : Nat.beq n m with | false => rfl | true => exact absurd (Nat.eq_of_beq_eq_true hb) h)]
theorem lk_cons (n m : Nat) (v : EV) (t : Env) : lk ((m, v) :: t) n = if n = m then some v else lk t n := by
  simp only [lk]
  by_cases h : n = m
  · subst h; simp
  · rw [if_neg h, show Nat.beq n m = false from (by cases hb : Nat.beq n m with | false => rfl | true => exact absurd (Nat.eq_of_beq_eq_true hb) h)]
theorem lkR_cons (n m : Nat) (r : Blk) (t : RL) : lkR ((m, r) :: t) n = if n = m then some r else lkR t n := by
  simp only [lkR]
  by_cases h : n = m
  · subst h; simp
  · rw [if_neg h, show Nat.beq n m = false from (by cases hb : Nat.beq n m with | false => rfl | true => exact absurd (Nat.eq_of_beq_eq_true hb) h)]

theorem getD_put {a : Act} {d n : Nat} {v : Value} (hd : d < a.tmps.size) : (a.put (some d) v).tmps.getD n undef = if n = d then v else a.tmps.getD n undef := by
  simp only [Act.put, Array.getD_eq_getD_getElem?, Array.getElem?_setIfInBounds]
  by_cases h : d = n
  · subst h; simp [hd]
  · rw [if_neg h, if_neg (fun e => h e.symm)]
theorem size_put {a : Act} {d : Nat} {v : Value} : (a.put (some d) v).tmps.size = a.tmps.size := by simp [Act.put]

theorem chainFree_spec {d : Nat} : ∀ {g : GEnv}, chainFree d g = true → lkG g d = none ∧ ∀ n ch e, lkG g n = some (ch, e) → ∀ s w b, (s, w, b) ∈ ch → s ≠ d
  | [], _ => ⟨rfl, fun n ch e h => by simp [lkG] at h⟩
  | (m, c, v) :: t, h => by
    simp only [chainFree, Bool.and_eq_true, Bool.not_eq_true', List.all_eq_true] at h
    obtain ⟨⟨h1, h2⟩, h3⟩ := h
    obtain ⟨i1, i2⟩ := chainFree_spec h3
    have hm : d ≠ m := by rintro rfl; simp at h1
    refine ⟨by rw [lkG_cons, if_neg hm]; exact i1, fun n ch e hn s w b hs => ?_⟩
    rw [lkG_cons] at hn
    split at hn
    · simp only [Option.some.injEq, Prod.mk.injEq] at hn
      obtain ⟨rfl, rfl⟩ := hn
      have := h2 _ hs
      rintro rfl
      simp at this
    · exact i2 n ch e hn s w b hs
theorem gA_put {ch : Chain} {a : Act} {d : Nat} {v : Value} (hd : d < a.tmps.size) (h : ∀ s w b, (s, w, b) ∈ ch → s ≠ d) : gA ch (a.put (some d) v) ↔ gA ch a := by
  unfold gA
  constructor
  · intro h1 s w b hs
    have := h1 s w b hs
    rwa [getD_put hd, if_neg (h s w b hs)] at this
  · intro h1 s w b hs
    rw [getD_put hd, if_neg (h s w b hs)]
    exact h1 s w b hs

theorem alive_val {rs : RL} {e e' : EV} (h : alive rs e = some e') : e' = e ∧ ∃ x, e.val rs = some x := by
  unfold alive at h
  split at h
  · simp only [Option.some.injEq] at h; exact ⟨h.symm, _, rfl⟩
  · rename_i id o
    split at h
    · rename_i r hr
      split at h
      · rename_i b hb
        simp only [Option.some.injEq] at h
        exact ⟨h.symm, _, by simp only [EV.val, hr, hb]; rfl⟩
      · simp at h
    · simp at h
  · rename_i id n c
    split at h
    · rename_i r hr
      simp only [Option.some.injEq] at h
      exact ⟨h.symm, _, by simp only [EV.val, hr]; rfl⟩
    · simp at h
theorem lt_of_val {rs : RL} {nx : Nat} (hr : ∀ id r, lkR rs id = some r → id < nx) {e : EV} {x : Value} (h : e.val rs = some x) : e.lt nx := by
  cases e with
  | v _ => trivial
  | loc id o =>
    simp only [EV.val] at h
    split at h
    · rename_i r hl; exact hr _ _ hl
    · simp at h
  | row id o n c =>
    simp only [EV.val] at h
    split at h
    · rename_i r hl; exact hr _ _ hl
    · simp at h

theorem pre_spec {a : Act} : ∀ {c ch : Chain}, pre c ch = true → gA ch a → gA c a
  | [], _, _, _ => fun s w b h => by simp at h
  | (s, w, b) :: t, [], h, _ => by simp [pre] at h
  | (s, w, b) :: t, (s', w', b') :: t', h, hg => by
    simp only [pre, Bool.and_eq_true, beq_iff_eq, Nat.beq_eq] at h
    obtain ⟨⟨rfl, rfl⟩, h3⟩ := h
    have ht : gA t' a := fun x y z hx => hg x y z (List.mem_cons_of_mem _ hx)
    intro x y z hx
    rcases List.mem_cons.1 hx with e | hx
    · simp only [Prod.mk.injEq] at e
      obtain ⟨rfl, rfl, rfl⟩ := e
      exact hg x y b' (by simp)
    · exact pre_spec h3 ht x y z hx

/-- Operands read as the evaluator says. -/
theorem fits_opd {c : Ctx} {g : GEnv} {st : St} {a : Act} {w : World} (h : GSat c N g st a w) {ch : Chain} (hg : gA ch a) : Fits st.rs (opd st.rs g st.env ch) a.eval := by
  intro o e he
  cases o with
  | const v => simp only [opd, Option.some.injEq] at he; subst he; rfl
  | global i => simp only [opd, Option.some.injEq] at he; subst he; rfl
  | func f => simp only [opd, Option.some.injEq] at he; subst he; rfl
  | tmp n =>
    simp only [opd] at he
    split at he
    · rename_i e' hp
      obtain ⟨rfl, x, hx⟩ := alive_val he
      simp only [Act.eval]
      unfold pick1 at hp
      split at hp
      · rename_i cc v hv
        split at hp
        · rename_i hpre
          simp only [Option.some.injEq] at hp
          subst hp
          rw [((h.gv n cc v hv).1 (pre_spec hpre hg)).1 x hx, hx]
        · simp at hp
      · rename_i hn
        rw [h.env n e x hn hp hx, hx]
    · simp at he

/-- The slots of a guard are none that the list of guards and the slots leave free. -/
def ChFree (g : GEnv) (env : Env) (ch : Chain) : Prop := ∀ d, lkG g d = none → lk env d = none → (∀ n ch' e', lkG g n = some (ch', e') → ∀ s w b, (s, w, b) ∈ ch' → s ≠ d) → ∀ s w b, (s, w, b) ∈ ch → s ≠ d
theorem putV_sat {c : Ctx} {g : GEnv} {st : St} {a : Act} {w : World} (h : GSat c N g st a w) {ch : Chain} {d : Option Nat} {e : EV} {v : Value} {K : GEnv → St → Prop} (hlt : e.lt st.nx) (hv : gA ch a → e.val st.rs = some v) (hgp : gA ch a → gP ch) (hf : ChFree g st.env ch) (hk : putV N ch d e K g st) :
    ∃ g' st', K g' st' ∧ st'.F = st.F ∧ st'.rs = st.rs ∧ st'.nx = st.nx ∧ (gA ch a → GSat c N g' st' (a.put d v) w) ∧ (¬ gA ch a → GSat c N g' st' (a.put d undef) w) := by
  obtain ⟨env, F, rs, nx⟩ := st
  cases d with
  | none => simp [putV] at hk
  | some d =>
    cases ch with
    | nil =>
      have hk' : d < N ∧ chainFree d g = true ∧ K g ⟨(d, e) :: env, F, rs, nx⟩ := by
        cases g with
        | nil => simp only [putV] at hk; exact ⟨hk.1, rfl, hk.2⟩
        | cons x g => simpa only [putV] using hk
      obtain ⟨hd, hc, hK⟩ := hk'
      have hds : d < a.tmps.size := by rw [h.size]; exact hd
      obtain ⟨hc1, hc2⟩ := chainFree_spec hc
      have hv := hv (fun s w b hs => by simp at hs)
      refine ⟨g, _, hK, rfl, rfl, rfl, fun _ => ?_, fun hn => absurd (fun s w b hs => by simp at hs) hn⟩
      exact {
        size := by rw [size_put]; exact h.size
        defers := h.defers
        wok := h.wok
        hist := h.hist
        rids := h.rids
        ids := fun n e' he' => by
          simp only [lk_cons] at he'
          split at he'
          · simp only [Option.some.injEq] at he'; subst he'; exact hlt
          · exact h.ids n e' he'
        env := fun n e' x hg he' hx => by
          rw [getD_put hds]
          simp only [lk_cons] at he'
          split at he'
          · simp only [Option.some.injEq] at he'
            subst he'
            rw [if_pos (by assumption)]
            exact Option.some.inj (hv.symm.trans hx)
          · rename_i hne
            rw [if_neg hne]
            exact h.env n e' x hg he' hx
        gv := fun n ch' e' hg => by
          have hnd : n ≠ d := by rintro rfl; rw [hc1] at hg; cases hg
          have hf := hc2 n ch' e' hg
          obtain ⟨g1, g2, g3, g4⟩ := h.gv n ch' e' hg
          rw [gA_put hds hf, getD_put hds, if_neg hnd]
          refine ⟨g1, g2, g3, ?_⟩
          rw [lk_cons, if_neg hnd]
          exact g4 }
    | cons c0 ch =>
      simp only [putV, Bool.and_eq_true] at hk
      obtain ⟨hd, ⟨hc, he⟩, hK⟩ := hk
      have hds : d < a.tmps.size := by rw [h.size]; exact hd
      obtain ⟨hc1, hc2⟩ := chainFree_spec hc
      have hed : lk env d = none := by
        unfold envFree at he
        split at he
        · simp at he
        · assumption
      have key : ∀ u, (gA (c0 :: ch) a → u = v) → (¬ gA (c0 :: ch) a → u = undef) → (∀ s w b, (s, w, b) ∈ (c0 :: ch) → s ≠ d) → GSat c N ((d, c0 :: ch, e) :: g) ⟨env, F, rs, nx⟩ (a.put (some d) u) w := by
        intro u hu1 hu2 hfr
        exact {
          size := by rw [size_put]; exact h.size
          defers := h.defers
          wok := h.wok
          hist := h.hist
          rids := h.rids
          ids := h.ids
          env := fun n e' x hg he' hx => by
            rw [lkG_cons] at hg
            split at hg
            · simp at hg
            · rename_i hne
              rw [getD_put hds, if_neg hne]
              exact h.env n e' x hg he' hx
          gv := fun n ch' e' hg => by
            rw [lkG_cons] at hg
            split at hg
            · rename_i hnd
              simp only [Option.some.injEq, Prod.mk.injEq] at hg
              obtain ⟨rfl, rfl⟩ := hg
              subst hnd
              rw [gA_put hds hfr, getD_put hds, if_pos rfl]
              refine ⟨fun hA => ⟨fun x hx => ?_, hgp hA⟩, hu2, hlt, hed⟩
              rw [hu1 hA]
              exact Option.some.inj ((hv hA).symm.trans hx)
            · rename_i hnd
              have hf := hc2 n ch' e' hg
              obtain ⟨g1, g2, g3, g4⟩ := h.gv n ch' e' hg
              rw [gA_put hds hf, getD_put hds, if_neg hnd]
              exact ⟨g1, g2, g3, g4⟩ }
      have hfr := hf d hc1 hed hc2
      exact ⟨_, _, hK, rfl, rfl, rfl, fun hA => key v (fun _ => rfl) (fun hn => absurd hA hn) hfr, fun hn => key undef (fun hA => absurd hA hn) (fun _ => rfl) hfr⟩

/-! ### Loads -/
theorem mem_cell {F : Hp} {w : World} (h : F.le w) {p : Option Addr} {v : Value} (e : Pcell F p = some v) : ∃ a, p = some a ∧ w.cell? a = some v := by
  cases p with
  | none => simp [Pcell] at e
  | some a => exact ⟨a, rfl, Fcell.world h (by simpa [Pcell] using e)⟩
theorem run_load {w : World} {a : Addr} {v : Value} (h : w.cell? a = some v) : (load a).run P w = .ok v w := by simp [load, Sem.run, h]
theorem run_loadAt_cell (htb : TbOK P tb) {t : TypeId} {i : TI} (hi : tb t = some i) (ha : i.kind.agg = false) {a : Addr} {v : Value} {w : World} (h : w.cell? a = some v) : (Instr.loadAt t (.pointer (some a))).run P w = .ok v w := by
  simp only [Instr.loadAt, Instr.sureAddr, run_bind, run_pure, loadVar, run_isAgg htb hi, ha, Bool.false_eq_true, if_false]
  exact run_load h
theorem run_loadAt_agg (htb : TbOK P tb) {t : TypeId} {i : TI} (hi : tb t = some i) (ha : i.kind.agg = true) {a : Addr} {cs : List Value} (hl : cs.length = i.size) {w : World} (h : ∀ j v, cs[j]? = some v → w.cell? (a.add j) = some v) :
    (Instr.loadAt t (.pointer (some a))).run P w = .ok (.agg cs.toArray) w := by
  simp only [Instr.loadAt, Instr.sureAddr, run_bind, run_pure, loadVar, run_isAgg htb hi, ha, if_true, run_sizeOf htb hi]
  rw [← hl, run_loadCells_list w a cs h]
theorem allV_spec {rs : RL} : ∀ {l : List EV} {xs : List Value}, allV rs l = some xs → xs.length = l.length ∧ ∀ (j : Nat) (x : Value), xs[j]? = some x → ∃ e : EV, l[j]? = some e ∧ e.val rs = some x
  | [], xs, h => by simp only [allV, Option.some.injEq] at h; subst h; exact ⟨rfl, fun j x hx => by simp at hx⟩
  | e :: l, xs, h => by
    simp only [allV] at h
    split at h
    · rename_i x ys hx hy
      simp only [Option.some.injEq] at h
      subst h
      obtain ⟨h1, h2⟩ := allV_spec hy
      refine ⟨by simp [h1], fun j y hj => ?_⟩
      cases j with
      | zero => simp only [List.getElem?_cons_zero, Option.some.injEq] at hj; subst hj; exact ⟨e, rfl, hx⟩
      | succ j => simpa using h2 j y (by simpa using hj)
    · simp at h
theorem Owned.cell {F : Hp} {rs : RL} {w : World} (h : Owned F rs w) {id : Nat} {r : Blk} {b : Nat} (hr : lkR rs id = some r) (hb : r.blk = some b) {j : Nat} {e : EV} {x : Value} (he : r.cells[j]? = some e) (hx : e.val rs = some x) : w.cell? ⟨b, j, none⟩ = some x := by
  have := h.own id r hr
  rw [hb] at this
  obtain ⟨_, _, cur, h1, _, h2⟩ := this
  simp only [World.cell?, h1]
  exact h2 j e x he hx

/-- A value in the machine's words. -/
theorem quiet_of_run {C : World → Prop} {a : Act} {o : Oper} {v : Value} {w : World} (h : (execOp a.eval o).run P w = .ok (.value v) w) : o.quietAt P a C w v := by
  unfold Oper.quietAt
  rw [h]
  exact ⟨rfl, rfl⟩

def C (c : Ctx) (st : St) : World → Prop := fun w => WOK c st.F st.rs w
theorem WOK.pres' {c : Ctx} {F : Hp} {rs : RL} {w w' : World} (h : WOK c F rs w) (p : Pres [] w w') : WOK c F rs w' where
  le := h.le.pres p (by simp)
  own := {
    own := fun id r hr => by
      have := h.own.own id r hr
      cases hb : r.blk with
      | none => rw [hb] at this; exact this
      | some b =>
        rw [hb] at this
        obtain ⟨h1, h2, cur, h3, h4⟩ := this
        exact ⟨h1, h2, cur, (p.block b (lt_of_some h3) (by simp)).trans h3, h4⟩
    apart := h.own.apart }
  pres := h.pres.trans' p (by simp)
  new := h.new
  fnew := h.fnew

/-- The part of memory that a state's reads lean on. -/
def Sw (st : St) (w : World) : Prop := st.F.le w ∧ ∀ id r b, lkR st.rs id = some r → r.blk = some b → r.cells ≠ [] → ∃ cur : Array Value, w.heap[b]? = some (.cells cur r.ty (0, 0)) ∧
  ∀ (j : Nat) (ev : EV) (x : Value), r.cells[j]? = some ev → ev.val st.rs = some x → cur[j]? = some x
structure Rd (st : St) (CC : World → Prop) : Prop where
  rd : ∀ w, CC w → Sw st w
  pres : ∀ w w', CC w → Pres [] w w' → CC w'
theorem rd_wok (c : Ctx) (st : St) : Rd st (C c st) where
  rd := fun w h => ⟨h.le, fun id r b hr hb _ => by
    have := h.own.own id r hr
    rw [hb] at this
    obtain ⟨_, _, cur, h1, _, h2⟩ := this
    exact ⟨cur, h1, h2⟩⟩
  pres := fun w w' h p => WOK.pres' h p
theorem rd_sw (st : St) : Rd st (Sw st) where
  rd := fun w h => h
  pres := fun w w' h p => ⟨h.1.pres p (by simp), fun id r b hr hb hc => by
    obtain ⟨cur, h1, h2⟩ := h.2 id r b hr hb hc
    exact ⟨cur, (p.block b (lt_of_some h1) (by simp)).trans h1, h2⟩⟩
theorem Sw.cell {st : St} {w : World} (h : Sw st w) {id : Nat} {r : Blk} {b : Nat} (hr : lkR st.rs id = some r) (hb : r.blk = some b) {j : Nat} {e : EV} {x : Value} (he : r.cells[j]? = some e) (hx : e.val st.rs = some x) : w.cell? ⟨b, j, none⟩ = some x := by
  obtain ⟨cur, h1, h2⟩ := h.2 id r b hr hb (by intro h0; rw [h0] at he; simp at he)
  simp only [World.cell?, h1]
  exact h2 j e x he hx

/-- What a quiet operation gives. -/
structure Quiet (P : Program) (st : St) (ch : Chain) (a : Act) (o : Oper) (e : EV) (v : Value) : Prop where
  lt : e.lt st.nx
  val : gA ch a → e.val st.rs = some v
  run : gA ch a → ∀ CC : World → Prop, Rd st CC → ∀ w, CC w → o.quietAt P a CC w v


theorem imp_gP {ch : Chain} {p : Prop} (h : imp ch p) (hg : gP ch) : p := by
  cases ch with
  | nil => exact h
  | cons c ch => exact h hg

theorem load_quiet (htb : TbOK P tb) {c : Ctx} {g : GEnv} {st : St} {a : Act} {w : World} (h : GSat c N g st a w) {ch : Chain} (hgp : gA ch a → gP ch) {K : EV → Prop} {o : Oper} {t : TypeId} {x : Operand} (ho : o.op = .load t x)
    (hk : loadGo st.F st.rs ch K (tb t) (opd st.rs g st.env ch x)) : ∃ e v, Quiet P st ch a o e v ∧ K e := by
  unfold loadGo at hk
  split at hk
  · rename_i i p hi hx
    cases ha : i.kind.agg with
    | false =>
      rw [ha] at hk
      simp only [loadF] at hk
      obtain ⟨v, h1, h2⟩ := hk
      refine ⟨.v v, v, ⟨trivial, fun _ => rfl, fun hA CC hC w' hw' => quiet_of_run ?_⟩, h2⟩
      obtain ⟨ad, rfl, hc⟩ := mem_cell (hC.rd _ hw').1 (imp_gP h1 (hgp hA))
      have e1 := fits_opd h hA _ _ hx
      simp only [EV.val, Option.some.injEq] at e1
      simp only [execOp, ho, ← e1]
      exact value_run (run_loadAt_cell htb hi ha hc)
    | true =>
      rw [ha] at hk
      simp only [loadF] at hk
      obtain ⟨cs, hl, h1, h2⟩ := hk
      refine ⟨.v (.agg cs.toArray), .agg cs.toArray, ⟨trivial, fun _ => rfl, fun hA CC hC w' hw' => quiet_of_run ?_⟩, h2⟩
      obtain ⟨hp, h3⟩ := imp_gP h1 (hgp hA)
      obtain ⟨ad, rfl⟩ := Option.isSome_iff_exists.1 hp
      have e1 := fits_opd h hA _ _ hx
      simp only [EV.val, Option.some.injEq] at e1
      simp only [execOp, ho, ← e1]
      refine value_run (run_loadAt_agg htb hi ha hl fun j v hj => ?_)
      have hjl : j < i.size := by rw [← hl]; exact (List.getElem?_eq_some_iff.1 hj).1
      have h4 := h3 j hjl
      rw [hj] at h4
      obtain ⟨ad', e2, hc⟩ := mem_cell (hC.rd _ hw').1 h4
      simp only [padd, Option.map_some, Option.some.injEq] at e2
      rw [e2]; exact hc
  · rename_i i id off hi hx
    cases hr : lkR st.rs id with
    | none => rw [hr] at hk; cases i.kind.agg <;> simp [loadL] at hk
    | some r =>
      rw [hr] at hk
      have hblk : ∀ ad, gA ch a → a.eval x = ad → ∃ b, r.blk = some b ∧ ad = .pointer (some ⟨b, off, none⟩) := fun ad hA had => by
        have e1 := fits_opd h hA _ _ hx
        simp only [EV.val, hr] at e1
        split at e1
        · rename_i b hb
          simp only [Option.some.injEq] at e1
          exact ⟨b, hb, by rw [← had, ← e1]⟩
        · simp at e1
      cases ha : i.kind.agg with
      | false =>
        rw [ha] at hk
        simp only [loadL] at hk
        cases he : r.cells[off]? with
        | none => simp [he, aliveO, optV] at hk
        | some e =>
          simp only [he, aliveO] at hk
          cases hal : alive st.rs e with
          | none => simp [hal, optV] at hk
          | some e' =>
            simp only [hal, optV] at hk
            obtain ⟨rfl, v, hv⟩ := alive_val hal
            refine ⟨e', v, ⟨lt_of_val (fun id r hr => (h.rids id r hr).1) hv, fun _ => hv, fun hA CC hC w' hw' => quiet_of_run ?_⟩, hk⟩
            obtain ⟨b, hb, hp⟩ := hblk _ hA rfl
            simp only [execOp, ho, hp]
            exact value_run (run_loadAt_cell htb hi ha ((hC.rd _ hw').cell hr hb he hv))
      | true =>
        rw [ha] at hk
        simp only [loadL] at hk
        obtain ⟨hle, hk⟩ := hk
        cases hal : allV st.rs ((r.cells.take (off + i.size)).drop off) with
        | none => simp [hal, optL] at hk
        | some cs =>
          simp only [hal, optL] at hk
          obtain ⟨hl, hcs⟩ := allV_spec hal
          refine ⟨.v (.agg cs.toArray), .agg cs.toArray, ⟨trivial, fun _ => rfl, fun hA CC hC w' hw' => quiet_of_run ?_⟩, hk⟩
          obtain ⟨b, hb, hp⟩ := hblk _ hA rfl
          simp only [execOp, ho, hp]
          refine value_run (run_loadAt_agg htb hi ha (by rw [hl]; simp; omega) fun j v hj => ?_)
          obtain ⟨e, he, hv⟩ := hcs j v hj
          rw [addr_add]
          refine (hC.rd _ hw').cell hr hb ?_ hv
          rw [List.getElem?_drop, List.getElem?_take] at he
          split at he
          · exact he
          · simp at he
  · exact hk.elim
end Go.TR
