/-
A small program logic of our own for the model. Part l: the steps for calls, loads out of the frozen part, loops, ends; view shifts. Nothing here speaks of one program.
-/
import Derived.Test.YtaienbnadbadfaaFwk
namespace Go.TR
section
variable {P : Program} {tb : Tb} {N : Nat} {dr : Bool} {all rest : List Oper} {K : GEnv → St → Prop} {KK : Exit → St → Prop} {g : GEnv} {st : St}

theorem callEff_of_plain {f : FuncId} {args : List Value} {x : Value} {d : Option Nat} {K : GEnv → St → Prop} {env : Env} {F : Hp} {rs : RL} {nx : Nat} (hp : Plain P F f args x) (hk : putV N [] d (.v x) K g ⟨env, F, rs, nx⟩) : callEff P N f args d K g ⟨env, F, rs, nx⟩ := by
  refine VS.id ⟨fun v F' new => v = x ∧ F' = F ∧ new = [], fun w hF => ?_, ?_⟩
  · refine (hp w hF).mono fun e w' ⟨he, hpr⟩ => ⟨x, F, [], he, Hp.sub.refl F, hF.pres hpr (by simp), hpr, fun k hk => .inl hk, ⟨fun id r h => by simp [lkR] at h, fun i j r s b h => by simp [lkR] at h⟩, fun id r b h => by simp [lkR] at h, rfl, rfl, rfl⟩
  · rintro v F' new _ ⟨rfl, rfl, rfl⟩
    exact ⟨0, .v v, fun id r h => by simp [lkR] at h, rfl, hk⟩
/-- A call that gives one plain value: unguarded. -/
theorem s_plain {d : Nat} {f : Operand} {args : Array Operand} {ts : Array TypeId} {n : FuncId} {first captured : Array Value} {xs ys : List Value} {ty : TypeId} {pos : String} {af : Array Edge} {env : Env} {F : Hp} {rs : RL} {nx : Nat} (x : Value)
    (hf : opd rs [] env [] f = some (.v (.func (.func n) first captured))) (hx : vals rs (opd rs [] env []) args.toList = some xs) (hy' : forceL (first.toList ++ xs ++ captured.toList) = some ys) (hb : bodied P n) (hd : Nat.blt d N = true) (hp : Plain P F n ys x)
    (k : vcOps P tb N dr all rest K [] ⟨(d, .v x) :: env, F, rs, nx⟩) : vcOps P tb N dr all (⟨some d, .call ⟨.value f, args, ts⟩, ty, pos, af, none⟩ :: rest) K [] ⟨env, F, rs, nx⟩ := by
  have hd' : d < N := by simpa using hd
  rw [forceL_eq, Option.some.injEq] at hy'
  subst hy'
  refine .inl ?_
  simp only [opV, hf, hx, callGo]
  refine ⟨hb, ?_⟩
  have hput : putV N [] (some d) (.v x) (vcOps P tb N dr all rest K) [] ⟨env, F, rs, nx⟩ := by simp only [putV]; exact ⟨hd', k⟩
  cases dr with
  | true => exact ⟨x, hp, hput⟩
  | false => exact callEff_of_plain hp hput
theorem s_plainG {d : Nat} {f : Operand} {args : Array Operand} {ts : Array TypeId} {n : FuncId} {first captured : Array Value} {xs ys : List Value} {ty : TypeId} {pos : String} {af : Array Edge} {env : Env} {F : Hp} {rs : RL} {nx : Nat} {y : Nat × Chain × EV} (x : Value)
    (hf : opd rs (y :: g) env [] f = some (.v (.func (.func n) first captured))) (hx : vals rs (opd rs (y :: g) env []) args.toList = some xs) (hy' : forceL (first.toList ++ xs ++ captured.toList) = some ys) (hb : bodied P n) (hd : Nat.blt d N = true) (hc : chainFree d (y :: g) = true) (hp : Plain P F n ys x)
    (k : vcOps P tb N dr all rest K (y :: g) ⟨(d, .v x) :: env, F, rs, nx⟩) : vcOps P tb N dr all (⟨some d, .call ⟨.value f, args, ts⟩, ty, pos, af, none⟩ :: rest) K (y :: g) ⟨env, F, rs, nx⟩ := by
  have hd' : d < N := by simpa using hd
  rw [forceL_eq, Option.some.injEq] at hy'
  subst hy'
  refine .inl ?_
  simp only [opV, hf, hx, callGo]
  refine ⟨hb, ?_⟩
  have hput : putV N [] (some d) (.v x) (vcOps P tb N dr all rest K) (y :: g) ⟨env, F, rs, nx⟩ := by simp only [putV]; exact ⟨hd', hc, k⟩
  cases dr with
  | true => exact ⟨x, hp, hput⟩
  | false => exact callEff_of_plain hp hput
/-- .. guarded. -/
theorem s_gplain {d j : Nat} {want : Bool} {f : Operand} {args : Array Operand} {ts : Array TypeId} {n : FuncId} {first captured : Array Value} {xs ys : List Value} {ty : TypeId} {pos : String} {af : Array Edge} {env : Env} {F : Hp} {rs : RL} {nx : Nat} {c : Nat × Bool × Bool} {ch : Chain} (x : Value)
    (hg : chainOf all g env j want = some (c :: ch)) (hf : opd rs g env (c :: ch) f = some (.v (.func (.func n) first captured))) (hx : vals rs (opd rs g env (c :: ch)) args.toList = some xs) (hy' : forceL (first.toList ++ xs ++ captured.toList) = some ys) (hb : bodied P n) (hd : Nat.blt d N = true) (hc : (chainFree d g && envFree d env) = true)
    (hp : gP (c :: ch) → Plain P F n ys x)
    (k : vcOps P tb N dr all rest K ((d, c :: ch, .v x) :: g) ⟨env, F, rs, nx⟩) : vcOps P tb N dr all (⟨some d, .call ⟨.value f, args, ts⟩, ty, pos, af, some (j, want)⟩ :: rest) K g ⟨env, F, rs, nx⟩ := by
  have hd' : d < N := by simpa using hd
  rw [forceL_eq, Option.some.injEq] at hy'
  subst hy'
  refine stepV_guard (st := ⟨env, F, rs, nx⟩) hg ?_
  simp only [opV, hf, hx, callGo]
  refine ⟨hb, ?_⟩
  have hput : putV N (c :: ch) (some d) (.v x) (vcOps P tb N dr all rest K) g ⟨env, F, rs, nx⟩ := by simp only [putV]; exact ⟨hd', hc, k⟩
  cases dr with
  | true => exact ⟨x, hp, hput⟩
  | false => exact ⟨x, hp, hput⟩
/-- One cell out of the frozen part. -/
theorem s_load {d : Nat} {t : TypeId} {a : Operand} {ty : TypeId} {pos : String} {af : Array Edge} {env : Env} {F : Hp} {rs : RL} {nx : Nat} {i : TI} {p : Option Addr} (x : Value) (hi : tb t = some i) (ha : i.kind.agg = false) (hp : opd rs [] env [] a = some (.v (.pointer p))) (hd : Nat.blt d N = true) (hx : Pcell F p = some x)
    (k : vcOps P tb N dr all rest K [] ⟨(d, .v x) :: env, F, rs, nx⟩) : vcOps P tb N dr all (⟨some d, .load t a, ty, pos, af, none⟩ :: rest) K [] ⟨env, F, rs, nx⟩ := by
  have hd' : d < N := by simpa using hd
  refine .inl ?_
  simp only [opV, hi, hp, loadGo, ha, loadF, putK, putV]
  exact ⟨x, hx, hd', k⟩
theorem s_gload {d j : Nat} {want : Bool} {t : TypeId} {a : Operand} {ty : TypeId} {pos : String} {af : Array Edge} {env : Env} {F : Hp} {rs : RL} {nx : Nat} {i : TI} {p : Option Addr} {c : Nat × Bool × Bool} {ch : Chain} (x : Value) (hg : chainOf all g env j want = some (c :: ch)) (hi : tb t = some i) (ha : i.kind.agg = false)
    (hp : opd rs g env (c :: ch) a = some (.v (.pointer p))) (hd : Nat.blt d N = true) (hc : (chainFree d g && envFree d env) = true) (hx : gP (c :: ch) → Pcell F p = some x)
    (k : vcOps P tb N dr all rest K ((d, c :: ch, .v x) :: g) ⟨env, F, rs, nx⟩) : vcOps P tb N dr all (⟨some d, .load t a, ty, pos, af, some (j, want)⟩ :: rest) K g ⟨env, F, rs, nx⟩ := by
  have hd' : d < N := by simpa using hd
  refine stepV_guard (st := ⟨env, F, rs, nx⟩) hg ?_
  simp only [opV, hi, hp, loadGo, ha, loadF, putK, putV]
  exact ⟨x, hx, hd', hc, k⟩
/-- The cells of an aggregate out of the frozen part. -/
theorem s_loadA {d : Nat} {t : TypeId} {a : Operand} {ty : TypeId} {pos : String} {af : Array Edge} {env : Env} {F : Hp} {rs : RL} {nx : Nat} {i : TI} {p : Option Addr} (cs : List Value) (hi : tb t = some i) (ha : i.kind.agg = true) (hp : opd rs [] env [] a = some (.v (.pointer p))) (hd : Nat.blt d N = true) (hl : cs.length = i.size)
    (hs : p.isSome = true) (hx : ∀ j, j < i.size → Pcell F (padd p j) = cs[j]?)
    (k : vcOps P tb N dr all rest K [] ⟨(d, .v (.agg cs.toArray)) :: env, F, rs, nx⟩) : vcOps P tb N dr all (⟨some d, .load t a, ty, pos, af, none⟩ :: rest) K [] ⟨env, F, rs, nx⟩ := by
  have hd' : d < N := by simpa using hd
  refine .inl ?_
  simp only [opV, hi, hp, loadGo, ha, loadF, putK, putV]
  exact ⟨cs, hl, ⟨hs, hx⟩, hd', k⟩

/-! The table of types. -/
def lkT : List (Nat × TI) → Tb
  | [], _ => none
  | (m, i) :: t, n => match Nat.beq n m with
    | true => some i
    | false => lkT t n
def AllOK (P : Program) : List (Nat × TI) → Prop
  | [] => True
  | (m, i) :: t => i.ok P m ∧ AllOK P t
theorem lkT_ok : ∀ {l : List (Nat × TI)}, AllOK P l → TbOK P (lkT l)
  | [], _, t, i, h => by simp [lkT] at h
  | (m, j) :: l, h0, t, i, h => by
    simp only [lkT] at h
    split at h
    · rename_i hb
      simp only [Option.some.injEq] at h
      subst h
      have := Nat.eq_of_beq_eq_true hb
      subst this
      exact h0.1
    · exact lkT_ok h0.2 t i h

/-! View shifts that only drop or rename. -/
def EnvSub (rs rs' : RL) (env : Env) : Env → Prop
  | [] => True
  | (n, e) :: t => (∃ e' x, lk env n = some e' ∧ e'.val rs = some x ∧ e.val rs' = some x) ∧ EnvSub rs rs' env t
theorem EnvSub.lk {rs rs' : RL} {env : Env} : ∀ {env' : Env}, EnvSub rs rs' env env' → ∀ n e, lk env' n = some e → ∃ e' x, Go.TR.lk env n = some e' ∧ e'.val rs = some x ∧ e.val rs' = some x
  | [], _, n, e, h => by simp [Go.TR.lk] at h
  | (m, v) :: t, hs, n, e, h => by
    rw [lk_cons] at h
    split at h
    · rename_i hn
      simp only [Option.some.injEq] at h
      subst hn h
      exact hs.1
    · exact EnvSub.lk hs.2 n e h
/-- The same blocks; the slots that are named. -/
theorem VS.env {env env' : Env} {F : Hp} {rs : RL} {nx : Nat} {G : St → Prop} (h : EnvSub rs rs env env') (k : G ⟨env', F, rs, nx⟩) : VS N [] ⟨env, F, rs, nx⟩ G := by
  intro c a w hs
  refine ⟨_, ?_, k⟩
  exact {
    size := hs.size
    defers := hs.defers
    wok := hs.wok
    hist := hs.hist
    rids := hs.rids
    ids := fun n e he => by
      obtain ⟨e', x, h1, h2, h3⟩ := h.lk n e he
      exact lt_of_val (fun id r hr => (hs.rids id r hr).1) h3
    env := fun n e x _ he hx => by
      obtain ⟨e', x', h1, h2, h3⟩ := h.lk n e he
      have := hs.env n e' x' rfl h1 h2
      simp only at hx
      rw [hx] at h3
      rw [this]
      exact (Option.some.inj h3).symm
    gv := fun n ch e he => by simp [lkG] at he }

/-- The named slots alone. -/
def keepE (rs : RL) (env : Env) : List Nat → Option Env
  | [] => some []
  | n :: t => match Go.TR.lk env n with
    | some e => (match alive rs e, keepE rs env t with
      | some e', some l => some ((n, e') :: l)
      | _, _ => none)
    | none => none
theorem keepE_sub {rs : RL} {env : Env} : ∀ {slots : List Nat} {env' : Env}, keepE rs env slots = some env' → EnvSub rs rs env env'
  | [], env', h => by simp only [keepE, Option.some.injEq] at h; subst h; trivial
  | n :: t, env', h => by
    simp only [keepE] at h
    split at h
    · rename_i e he
      split at h
      · rename_i e' l ha hl
        simp only [Option.some.injEq] at h
        subst h
        obtain ⟨rfl, x, hx⟩ := alive_val ha
        exact ⟨⟨_, x, he, hx, hx⟩, keepE_sub hl⟩
      · simp at h
    · simp at h
theorem VS.keep {env env' : Env} {F : Hp} {rs : RL} {nx : Nat} {G : St → Prop} (slots : List Nat) (h : keepE rs env slots = some env') (k : G ⟨env', F, rs, nx⟩) : VS N [] ⟨env, F, rs, nx⟩ G := VS.env (keepE_sub h) k

/-! Loops. -/
theorem s_loop {x : Code} {ι : Type} (T : ι → St) (μ : ι → Nat) (i : ι) (h0 : VS N [] st fun st' => st' = T i) (hr : ∀ i, vc P tb N x (loopK N st.nx T μ i KK) (T i)) : vc P tb N (.loop x) KK st :=
  ⟨ι, T, μ, fun c a w hs => by
    obtain ⟨st', h1, h2⟩ := h0 c a w hs
    exact ⟨st', h1, i, h2⟩, hr⟩
theorem s_loopn {ι : Type} {kn : Nat} {T : ι → St} {μ : ι → Nat} {i : ι} (j : ι) (hj : μ j < μ i) (h : VS N [] st fun st' => st' = T j) : loopK N kn T μ i KK .normal st := fun c a w _ hs => by
  obtain ⟨st', h1, h2⟩ := h c a w hs
  exact ⟨st', h1, j, h2, hj⟩
theorem s_loopr {ι : Type} {kn : Nat} {T : ι → St} {μ : ι → Nat} {i : ι} (k : KK .ret st) : loopK N kn T μ i KK .ret st := VS.id k
theorem s_loope {ι : Type} {kn : Nat} {T : ι → St} {μ : ι → Nat} {i : ι} {id : Nat} (k : KK (.exit id) st) : loopK N kn T μ i KK (.exit id) st := VS.id k

/-! Contracts, with the numbers of the function laid open. -/
theorem plain_vc (htb : TbOK P tb) (hm : P.follows .mixedOrders = true) {f : FuncId} {fn : Func} (hf : P.funcs[f]? = some fn) {code : Code} (hb : fn.body = some code) {N : Nat} (hn : fn.ntmps = N) {rv : List ResultVar} (hr : fn.results.toList = rv) {args : List Value} {env : Env} (he : paramEnv 0 args = env)
    (hN : Nat.ble args.length N = true) {F : Hp} {x : Value} (h : vc P tb N code (retK tb rv (fun v => v = x)) ⟨env, F, [], 0⟩) : Plain P F f args x := by
  subst hn hr he
  exact plain_of_vc htb hm hf hb hN h
theorem call_vc (htb : TbOK P tb) (hm : P.follows .mixedOrders = true) {f : FuncId} {fn : Func} (hf : P.funcs[f]? = some fn) {code : Code} (hb : fn.body = some code) {N : Nat} (hn : fn.ntmps = N) {rv : List ResultVar} (hr : fn.results.toList = rv) {args : List Value} {env : Env} (he : paramEnv 0 args = env)
    (hN : Nat.ble args.length N = true) {F : Hp} {Q : Value → Hp → RL → Prop} (h : vc P tb N code (retG N tb rv Q) ⟨env, F, [], 0⟩) : CallOK P F f args Q := by
  subst hn hr he
  exact call_of_vc htb hm hf hb hN h
/-- At an undecided test. -/
theorem s_if {c : Operand} {x y : Code} (b : Bool) (h : opd st.rs [] st.env [] c = some (.v (.bool b))) (k1 : b = true → vc P tb N x KK st) (k2 : b = false → vc P tb N y KK st) : vc P tb N (.cond c x y) KK st := s_cond h k1 k2

/-- Memory may be named anew ahead of an operation. -/
theorem s_shift {d : Option Nat} {op : Op} {ty : TypeId} {pos : String} {af : Array Edge} (h : VS N g st fun st => vcOps P tb N false all (⟨d, op, ty, pos, af, none⟩ :: rest) K g st) : vcOps P tb N false all (⟨d, op, ty, pos, af, none⟩ :: rest) K g st := by
  refine .inr (.inr ⟨rfl, fun c a w hs => ?_⟩)
  obtain ⟨st', h1, h2⟩ := h c a w hs
  rcases h2 with h2 | ⟨_, h2⟩ | ⟨_, h2⟩
  · exact ⟨st', h1, .inl h2⟩
  · exact ⟨st', h1, .inr (.inl h2)⟩
  · exact h2 c a w h1
/-- By the machine's own words. -/
theorem s_sem {d : Nat} {op : Op} {ty : TypeId} {pos : String} {af : Array Edge} (e : EV) {env : Env} {F : Hp} {rs : RL} {nx : Nat} (hd : Nat.blt d N = true)
    (h : ∀ (c : Ctx) (a : Act) (w : World) (o : Oper), GSat c N [] st a w → o.op = op → ∃ v w', (execOp a.eval o).run P w = .ok (.value v) w' ∧ GSat c N [] ⟨env, F, rs, nx⟩ a w' ∧ e.val rs = some v)
    (k : vcOps P tb N false all rest K [] ⟨(d, e) :: env, F, rs, nx⟩) : vcOps P tb N false all (⟨some d, op, ty, pos, af, none⟩ :: rest) K [] st := by
  have hd' : d < N := by simpa using hd
  refine .inr (.inr ⟨rfl, VS.id (.inr (.inr ⟨e, ⟨env, F, rs, nx⟩, h, ?_⟩))⟩)
  simp only [putE, putV]
  exact ⟨hd', k⟩

/-! Under open guards: a load that no guard holds back. -/
theorem s_loadG {d : Nat} {t : TypeId} {a : Operand} {ty : TypeId} {pos : String} {af : Array Edge} {env : Env} {F : Hp} {rs : RL} {nx : Nat} {y : Nat × Chain × EV} {i : TI} {p : Option Addr} (x : Value) (hi : tb t = some i) (ha : i.kind.agg = false) (hp : opd rs (y :: g) env [] a = some (.v (.pointer p))) (hd : Nat.blt d N = true) (hc : chainFree d (y :: g) = true) (hx : Pcell F p = some x)
    (k : vcOps P tb N dr all rest K (y :: g) ⟨(d, .v x) :: env, F, rs, nx⟩) : vcOps P tb N dr all (⟨some d, .load t a, ty, pos, af, none⟩ :: rest) K (y :: g) ⟨env, F, rs, nx⟩ := by
  have hd' : d < N := by simpa using hd
  refine .inl ?_
  simp only [opV, hi, hp, loadGo, ha, loadF, putK, putV]
  exact ⟨x, hx, hd', hc, k⟩
theorem s_gloadA {d j : Nat} {want : Bool} {t : TypeId} {a : Operand} {ty : TypeId} {pos : String} {af : Array Edge} {env : Env} {F : Hp} {rs : RL} {nx : Nat} {i : TI} {p : Option Addr} {c : Nat × Bool × Bool} {ch : Chain} (cs : List Value) (hg : chainOf all g env j want = some (c :: ch)) (hi : tb t = some i) (ha : i.kind.agg = true)
    (hp : opd rs g env (c :: ch) a = some (.v (.pointer p))) (hd : Nat.blt d N = true) (hc : (chainFree d g && envFree d env) = true) (hl : cs.length = i.size) (hs : gP (c :: ch) → p.isSome = true ∧ ∀ j, j < i.size → Pcell F (padd p j) = cs[j]?)
    (k : vcOps P tb N dr all rest K ((d, c :: ch, .v (.agg cs.toArray)) :: g) ⟨env, F, rs, nx⟩) : vcOps P tb N dr all (⟨some d, .load t a, ty, pos, af, some (j, want)⟩ :: rest) K g ⟨env, F, rs, nx⟩ := by
  have hd' : d < N := by simpa using hd
  refine stepV_guard (st := ⟨env, F, rs, nx⟩) hg ?_
  simp only [opV, hi, hp, loadGo, ha, loadF, putK, putV]
  exact ⟨cs, hl, hs, hd', hc, k⟩
/-- A cell of an owned block whose cells are told of by a list. -/
theorem s_locX {d : Nat} {t : TypeId} {a : Operand} {ty : TypeId} {pos : String} {af : Array Edge} {env : Env} {F : Hp} {rs : RL} {nx id off : Nat} {i : TI} {r : Blk} (x : Value) (hi : tb t = some i) (ha : i.kind.agg = false) (hp : opd rs [] env [] a = some (.loc id off)) (hr : lkR rs id = some r) (hd : Nat.blt d N = true) (hx : r.cells[off]? = some (.v x))
    (k : vcOps P tb N dr all rest K [] ⟨(d, .v x) :: env, F, rs, nx⟩) : vcOps P tb N dr all (⟨some d, .load t a, ty, pos, af, none⟩ :: rest) K [] ⟨env, F, rs, nx⟩ := by
  have hd' : d < N := by simpa using hd
  refine .inl ?_
  simp only [opV, hi, hp, loadGo, hr, ha, loadL, hx, aliveO, alive, optV, putK, putV]
  exact ⟨hd', k⟩
theorem s_locXA {d : Nat} {t : TypeId} {a : Operand} {ty : TypeId} {pos : String} {af : Array Edge} {env : Env} {F : Hp} {rs : RL} {nx id off : Nat} {i : TI} {r : Blk} (cs : List Value) (hi : tb t = some i) (ha : i.kind.agg = true) (hp : opd rs [] env [] a = some (.loc id off)) (hr : lkR rs id = some r) (hd : Nat.blt d N = true) (hle : off + i.size ≤ r.cells.length) (hx : (r.cells.take (off + i.size)).drop off = cs.map .v)
    (k : vcOps P tb N dr all rest K [] ⟨(d, .v (.agg cs.toArray)) :: env, F, rs, nx⟩) : vcOps P tb N dr all (⟨some d, .load t a, ty, pos, af, none⟩ :: rest) K [] ⟨env, F, rs, nx⟩ := by
  have hd' : d < N := by simpa using hd
  refine .inl ?_
  simp only [opV, hi, hp, loadGo, hr, ha, loadL, hx, allV_map_v, optL, putK, putV]
  exact ⟨hle, hd', k⟩
/-- A store into an owned block whose cells are told of by a list. -/
theorem s_storeX {t : TypeId} {a x : Operand} {ty : TypeId} {pos : String} {af : Array Edge} {env : Env} {F : Hp} {rs rs' : RL} {nx id off : Nat} {i : TI} {r : Blk} {e : EV} (cells' : List EV) (hi : tb t = some i) (ha : opd rs g env [] a = some (.loc id off)) (hx : opd rs g env [] x = some e) (hr : lkR rs id = some r) (hl : (cellsOf e).length = i.size) (h1 : (cellsOf e).all one = true) (hle : off + i.size ≤ r.cells.length)
    (hc : r.cells.take off ++ cellsOf e ++ r.cells.drop (off + i.size) = cells') (hrs : forceL (setR rs id ⟨r.blk, cells', r.ty, r.cap⟩) = some rs')
    (k : vcOps P tb N false all rest K g ⟨env, F, rs', nx⟩) : vcOps P tb N false all (⟨none, .store t a x, ty, pos, af, none⟩ :: rest) K g ⟨env, F, rs, nx⟩ := by
  rw [forceL_eq, Option.some.injEq] at hrs
  subst hc hrs
  refine .inl ?_
  simp only [opV, hi, ha, hx, storeGo, hr, storeIn]
  exact ⟨trivial, trivial, trivial, hl, h1, hle, k⟩

/-! New rows. -/
theorem s_bslice {d : Nat} {t e : TypeId} {n : Nat} {ps : Array (Nat × Operand)} {ty : TypeId} {pos : String} {af : Array Edge} {env : Env} {F : Hp} {rs : RL} {nx : Nat} {xs : List (Nat × Value)} {cs : List Value} {cells : List EV} {ti : TI} {m : Nat} (ht : tk tb t = some (.slice e)) (hi : tb e = some ti) (hp : partsOf rs (opd rs [] env []) ps.toList = some xs) (hz : Nat.ble (n * ti.size) 16777216 = true)
    (hf : fillV (fun i => some (i * ti.size, ti.size)) (zerosV (n * ti.size) ti.zero) xs = some cs) (hc : forceL (cs.map EV.v) = some cells) (hm : cells.length = m) (hd : Nat.blt d N = true)
    (k : ∀ b, vcOps P tb N false all rest K [] ⟨(d, .row nx 0 n n) :: env, F, (nx, ⟨some b, cells, e, m⟩) :: rs, nx + 1⟩) : vcOps P tb N false all (⟨some d, .buildSlice t n ps, ty, pos, af, none⟩ :: rest) K [] ⟨env, F, rs, nx⟩ := by
  have hd' : d < N := by simpa using hd
  have hz' : n * ti.size ≤ 2 ^ 24 := by simpa using hz
  rw [forceL_eq, Option.some.injEq] at hc
  subst hc hm
  refine .inl ?_
  simp only [opV, ht, hp, bsGo, hi, bsElem, hf, bsFill, rowV, putV]
  exact ⟨trivial, trivial, hz', fun b => ⟨hd', k b⟩⟩

/-! Appending. -/
def SrcIs (F : Hp) (rs : RL) (size : Nat) (y : Option EV) (m : Nat) (news : List EV) : Prop := ∀ k : Nat → List EV → Prop, k m news → srcV F rs size k y
theorem src_row {F : Hp} {rs : RL} {size id m c b : Nat} {cells : List EV} {ty : TypeId} {cap : Nat} (hr : lkR rs id = some ⟨some b, cells, ty, cap⟩) (hl : m * size = cells.length) : SrcIs F rs size (some (.row id 0 m c)) m cells := fun k hk => by
  simp only [srcV, hr, srcR]
  refine ⟨by omega, ?_⟩
  rw [Nat.zero_add, hl, List.take_length, List.drop_zero]
  exact hk
theorem src_frz {F : Hp} {rs : RL} {size m c : Nat} {p : Option Addr} {cs : List Value} (hl : cs.length = m * size) (h : Frow F p cs) : SrcIs F rs size (some (.v (.slice p m c))) m (cs.map .v) := fun k hk => by
  simp only [srcV]
  exact ⟨cs, hl, h, hk⟩
theorem src_str {F : Hp} {rs : RL} {l : List UInt8} : SrcIs F rs 1 (some (.v (S l))) l.length (l.map fun b => .v (.int .u8 (b.toNat : Int))) := fun k hk => by
  simp only [srcV]
  exact ⟨trivial, hk⟩
theorem one_v (rs : RL) {l : List Value} (h : ∀ x ∈ l, one (.v x) = true) : oneAll rs (l.map .v) := fun e he => by
  obtain ⟨x, hx, rfl⟩ := List.mem_map.1 he
  exact ⟨h x hx, x, rfl⟩
theorem s_appR {d : Nat} {x y : Operand} {t1 t2 e : TypeId} {ty : TypeId} {pos : String} {af : Array Edge} {env : Env} {F : Hp} {rs rs' : RL} {nx id n c cap : Nat} {blk : Option Nat} {cells : List EV} {ti : TI} {m : Nat} {news : List EV} (ht : tk tb t1 = some (.slice e)) (ht2 : srcTy (tk tb t2) = true) (hi : tb e = some ti) (h0 : (Nat.blt 0 ti.size && Nat.blt 0 ti.bytes && Nat.beq ti.zero.length ti.size) = true)
    (hx : opd rs [] env [] x = some (.row id 0 n c)) (hr : lkR rs id = some ⟨blk, cells, e, cap⟩) (hrs : forceL (delR rs id) = some rs') (hd : Nat.blt d N = true) (hsrc : SrcIs F rs ti.size (opd rs [] env [] y) m news) (hone : oneAll rs news) (hok : blk = none → n = 0 ∧ c = 0) (hnc : n ≤ c) (hcap : cap = c * ti.size) (hcl : n * ti.size ≤ cells.length)
    (hby : (n + m) * ti.bytes ≤ 140737488355328)
    (k0 : m = 0 → vcOps P tb N false all rest K [] ⟨(d, .row id 0 n c) :: env, F, rs, nx⟩)
    (k : 0 < m → ∀ b cap, n + m ≤ cap → vcOps P tb N false all rest K [] ⟨(d, .row nx 0 (n + m) cap) :: env, F, (nx, ⟨some b, cells.take (n * ti.size) ++ news, e, cap * ti.size⟩) :: rs', nx + 1⟩) :
    vcOps P tb N false all (⟨some d, .call ⟨.builtin .append, #[x, y], #[t1, t2]⟩, ty, pos, af, none⟩ :: rest) K [] ⟨env, F, rs, nx⟩ := by
  have hd' : d < N := by simpa using hd
  simp only [Bool.and_eq_true, Nat.blt_eq, Nat.beq_eq] at h0
  obtain ⟨⟨h1, h2⟩, h3⟩ := h0
  rw [forceL_eq, Option.some.injEq] at hrs
  subst hrs
  refine .inr (.inl ⟨rfl, x, y, t1, t2, rfl, rfl, ?_⟩)
  simp only [ht, appV, ht2, hi, appS, true_and]
  refine ⟨h1, h2, h3, hsrc _ ⟨hone, ?_⟩⟩
  simp only [hx, appD, hr]
  cases blk with
  | none =>
    obtain ⟨rfl, rfl⟩ := hok rfl
    simp only [appR, appK, putV, Nat.zero_add]
    simp only [Nat.zero_add, Nat.zero_mul, List.take_zero, List.nil_append] at k hby
    exact ⟨trivial, trivial, fun hm => ⟨hd', k0 hm⟩, fun hm => ⟨hby, fun b cap hc => ⟨hd', k hm b cap hc⟩⟩⟩
  | some b0 =>
    simp only [appR, appK, putV]
    exact ⟨trivial, hnc, hcap, hcl, fun hm => ⟨hd', k0 hm⟩, fun hm => ⟨hby, fun b cap hc => ⟨hd', k hm b cap hc⟩⟩⟩
theorem s_appV {d : Nat} {x y : Operand} {t1 t2 e : TypeId} {ty : TypeId} {pos : String} {af : Array Edge} {env : Env} {F : Hp} {rs : RL} {nx n : Nat} {p : Option Addr} {ti : TI} {m : Nat} {news : List EV} (cs : List Value) (ht : tk tb t1 = some (.slice e)) (ht2 : srcTy (tk tb t2) = true) (hi : tb e = some ti) (h0 : (Nat.blt 0 ti.size && Nat.blt 0 ti.bytes && Nat.beq ti.zero.length ti.size) = true)
    (hx : opd rs [] env [] x = some (.v (.slice p n n))) (hd : Nat.blt d N = true) (hcl : cs.length = n * ti.size) (hfr : Frow F p cs) (hsrc : SrcIs F rs ti.size (opd rs [] env [] y) m news) (hone : oneAll rs news)
    (hby : (n + m) * ti.bytes ≤ 140737488355328)
    (k0 : m = 0 → vcOps P tb N false all rest K [] ⟨(d, .v (.slice p n n)) :: env, F, rs, nx⟩)
    (k : 0 < m → ∀ b cap, n + m ≤ cap → vcOps P tb N false all rest K [] ⟨(d, .row nx 0 (n + m) cap) :: env, F, (nx, ⟨some b, cs.map .v ++ news, e, cap * ti.size⟩) :: rs, nx + 1⟩) :
    vcOps P tb N false all (⟨some d, .call ⟨.builtin .append, #[x, y], #[t1, t2]⟩, ty, pos, af, none⟩ :: rest) K [] ⟨env, F, rs, nx⟩ := by
  have hd' : d < N := by simpa using hd
  simp only [Bool.and_eq_true, Nat.blt_eq, Nat.beq_eq] at h0
  obtain ⟨⟨h1, h2⟩, h3⟩ := h0
  refine .inr (.inl ⟨rfl, x, y, t1, t2, rfl, rfl, ?_⟩)
  simp only [ht, appV, ht2, hi, appS, true_and]
  refine ⟨h1, h2, h3, hsrc _ ⟨hone, ?_⟩⟩
  simp only [hx, appD, appF, appK, putV, true_and]
  exact ⟨cs, hcl, hfr, fun hm => ⟨hd', k0 hm⟩, fun hm => ⟨hby, fun b cap hc => ⟨hd', k hm b cap hc⟩⟩⟩

/-! Bytes read as a string. -/
theorem s_strR {d : Nat} {x : Operand} {s t : TypeId} {ty : TypeId} {pos : String} {af : Array Edge} {env : Env} {F : Hp} {rs : RL} {nx id m c b cap : Nat} {cells : List EV} {tyb : TypeId} (bs : List UInt8) (hs : (isByteSlice tb (tk tb s) && isStr (tk tb t)) = true) (hx : opd rs [] env [] x = some (.row id 0 m c)) (hr : lkR rs id = some ⟨some b, cells, tyb, cap⟩) (hd : Nat.blt d N = true)
    (hm : m ≤ cells.length) (hc : cells.take m = bs.map fun b => .v (.int .u8 (b.toNat : Int)))
    (k : vcOps P tb N false all rest K [] ⟨(d, .v (S bs)) :: env, F, rs, nx⟩) : vcOps P tb N false all (⟨some d, .convert s t x, ty, pos, af, none⟩ :: rest) K [] ⟨env, F, rs, nx⟩ := by
  have hd' : d < N := by simpa using hd
  simp only [Bool.and_eq_true] at hs
  refine .inr (.inl ⟨rfl, hs.1, hs.2, ?_⟩)
  simp only [hx, strV, hr, srcR, Nat.mul_one, Nat.zero_add, List.drop_zero, putV]
  exact ⟨hm, bs, hc, hd', k⟩
theorem s_strF {d : Nat} {x : Operand} {s t : TypeId} {ty : TypeId} {pos : String} {af : Array Edge} {env : Env} {F : Hp} {rs : RL} {nx m c : Nat} {p : Option Addr} (bs : List UInt8) (hs : (isByteSlice tb (tk tb s) && isStr (tk tb t)) = true) (hx : opd rs [] env [] x = some (.v (.slice p m c))) (hd : Nat.blt d N = true)
    (hm : bs.length = m) (hc : Frow F p (bs.map fun b => .int .u8 (b.toNat : Int)))
    (k : vcOps P tb N false all rest K [] ⟨(d, .v (S bs)) :: env, F, rs, nx⟩) : vcOps P tb N false all (⟨some d, .convert s t x, ty, pos, af, none⟩ :: rest) K [] ⟨env, F, rs, nx⟩ := by
  have hd' : d < N := by simpa using hd
  simp only [Bool.and_eq_true] at hs
  refine .inr (.inl ⟨rfl, hs.1, hs.2, ?_⟩)
  simp only [hx, strV, putV]
  exact ⟨bs, hm, hc, hd', k⟩

/-! Calls that make memory. -/
theorem s_call {d : Nat} {f : Operand} {args : Array Operand} {ts : Array TypeId} {n : FuncId} {first captured : Array Value} {xs ys : List Value} {ty : TypeId} {pos : String} {af : Array Edge} {env : Env} {F : Hp} {rs : RL} {nx : Nat} {Q : Value → Hp → RL → Prop}
    (hf : opd rs [] env [] f = some (.v (.func (.func n) first captured))) (hx : vals rs (opd rs [] env []) args.toList = some xs) (hy' : forceL (first.toList ++ xs ++ captured.toList) = some ys) (hb : bodied P n) (hd : Nat.blt d N = true) (hc : CallOK P F n ys Q)
    (k : ∀ x F' new, F.sub F' → Q x F' new → ∃ (m : Nat) (e : EV), (∀ id r, lkR new id = some r → id < m ∧ ∀ e ∈ r.cells, e.lt m) ∧ e.val new = some x ∧ vcOps P tb N false all rest K [] ⟨(d, shiftE nx e) :: env, F', shiftR nx new ++ rs, nx + m⟩) :
    vcOps P tb N false all (⟨some d, .call ⟨.value f, args, ts⟩, ty, pos, af, none⟩ :: rest) K [] ⟨env, F, rs, nx⟩ := by
  have hd' : d < N := by simpa using hd
  rw [forceL_eq, Option.some.injEq] at hy'
  subst hy'
  refine .inl ?_
  simp only [opV, hf, hx, callGo]
  refine ⟨hb, VS.id ⟨Q, hc, fun x F' new h1 h2 => ?_⟩⟩
  obtain ⟨m, e, h3, h4, h5⟩ := k x F' new h1 h2
  exact ⟨m, e, h3, h4, by simp only [putV]; exact ⟨hd', h5⟩⟩
/-- What comes back is frozen. -/
abbrev CallF (P : Program) (F : Hp) (f : FuncId) (args : List Value) (Q : Value → Hp → Prop) : Prop := CallOK P F f args fun x F' new => new = [] ∧ Q x F'
theorem s_callF {d : Nat} {f : Operand} {args : Array Operand} {ts : Array TypeId} {n : FuncId} {first captured : Array Value} {xs ys : List Value} {ty : TypeId} {pos : String} {af : Array Edge} {env : Env} {F : Hp} {rs : RL} {nx : Nat} {Q : Value → Hp → Prop}
    (hf : opd rs [] env [] f = some (.v (.func (.func n) first captured))) (hx : vals rs (opd rs [] env []) args.toList = some xs) (hy' : forceL (first.toList ++ xs ++ captured.toList) = some ys) (hb : bodied P n) (hd : Nat.blt d N = true) (hc : CallF P F n ys Q)
    (k : ∀ x F', F.sub F' → Q x F' → vcOps P tb N false all rest K [] ⟨(d, .v x) :: env, F', rs, nx⟩) :
    vcOps P tb N false all (⟨some d, .call ⟨.value f, args, ts⟩, ty, pos, af, none⟩ :: rest) K [] ⟨env, F, rs, nx⟩ :=
  s_call hf hx hy' hb hd hc fun x F' new h1 h2 => by
    obtain ⟨rfl, h3⟩ := h2
    exact ⟨0, .v x, fun id r h => by simp [lkR] at h, rfl, k x F' h1 h3⟩
/-- What comes back is a row of the caller's own, or an empty slice. -/
def RowBack (e : TypeId) (size : Nat) (cs : List Value) (n : Nat) (x : Value) (new : RL) : Prop :=
  (n = 0 ∧ new = [] ∧ ∃ p, x = .slice p 0 0) ∨ (0 < n ∧ ∃ b c, n ≤ c ∧ new = [(0, ⟨some b, cs.map .v, e, c * size⟩)] ∧ x = .slice (some ⟨b, 0, none⟩) n c)
theorem s_callR {d : Nat} {f : Operand} {args : Array Operand} {ts : Array TypeId} {n : FuncId} {first captured : Array Value} {xs ys : List Value} {ty : TypeId} {pos : String} {af : Array Edge} {env : Env} {F : Hp} {rs : RL} {nx : Nat} {e : TypeId} {size k : Nat} {Q : Value → Hp → RL → Prop} {R : Hp → List Value → Prop} (hQ : ∀ x F' new, Q x F' new → ∃ cs, RowBack e size cs k x new ∧ R F' cs)
    (hf : opd rs [] env [] f = some (.v (.func (.func n) first captured))) (hx : vals rs (opd rs [] env []) args.toList = some xs) (hy' : forceL (first.toList ++ xs ++ captured.toList) = some ys) (hb : bodied P n) (hd : Nat.blt d N = true) (hc : CallOK P F n ys Q)
    (k0 : k = 0 → ∀ F' p cs, F.sub F' → R F' cs → vcOps P tb N false all rest K [] ⟨(d, .v (.slice p 0 0)) :: env, F', rs, nx⟩)
    (k1 : 0 < k → ∀ F' b c cs, F.sub F' → k ≤ c → R F' cs → vcOps P tb N false all rest K [] ⟨(d, .row nx 0 k c) :: env, F', (nx, ⟨some b, cs.map .v, e, c * size⟩) :: rs, nx + 1⟩) :
    vcOps P tb N false all (⟨some d, .call ⟨.value f, args, ts⟩, ty, pos, af, none⟩ :: rest) K [] ⟨env, F, rs, nx⟩ :=
  s_call hf hx hy' hb hd hc fun x F' new h1 h2 => by
    obtain ⟨cs, h3, h4⟩ := hQ x F' new h2
    rcases h3 with ⟨h5, rfl, p, rfl⟩ | ⟨h5, b, c, h6, rfl, rfl⟩
    · exact ⟨0, .v _, fun id r h => by simp [lkR] at h, rfl, k0 h5 F' p cs h1 h4⟩
    · refine ⟨1, .row 0 0 k c, fun id r h => ?_, by simp only [EV.val, lkR_cons, if_true]; rfl, ?_⟩
      · rw [lkR_cons] at h
        split at h
        · rename_i h0
          simp only [Option.some.injEq] at h
          subst h h0
          refine ⟨Nat.zero_lt_one, fun e he => ?_⟩
          obtain ⟨u, _, rfl⟩ := List.mem_map.1 he
          trivial
        · simp [lkR] at h
      · have e1 : (cs.map EV.v).map (shiftE nx) = cs.map EV.v := by rw [List.map_map]; rfl
        have := k1 h5 F' b c cs h1 h6 h4
        simp only [shiftE, shiftR, shiftB, List.map_cons, List.map_nil, Nat.add_zero, e1, List.cons_append, List.nil_append]
        exact this
/-- A callee is walked in its place. -/
theorem s_inline {d : Nat} {f : Operand} {args : Array Operand} {ts : Array TypeId} {n : FuncId} {first captured : Array Value} {es : List EV} {ty : TypeId} {pos : String} {af : Array Edge} {env env' : Env} {F : Hp} {rs : RL} {nx : Nat} (htb : TbOK P tb) (hm : P.follows .mixedOrders = true)
    {fn : Func} (hfn : P.funcs[n]? = some fn) {code : Code} (hbody : fn.body = some code) {N' : Nat} (hn : fn.ntmps = N') {rv : List ResultVar} (hrv : fn.results.toList = rv)
    (hf : opd rs [] env [] f = some (.v (.func (.func n) first captured))) (he : evs (opd rs [] env []) args.toList = some es) (henv : paramE 0 (first.toList.map EV.v ++ es ++ captured.toList.map EV.v) = env') (hN : Nat.ble (first.toList.map EV.v ++ es ++ captured.toList.map EV.v).length N' = true) (hb : bodied P n) (hd : Nat.blt d N = true)
    (k : vc P tb N' code (retI N' tb rv (fun e F' rs' nx' => vcOps P tb N false all rest K [] ⟨(d, e) :: env, F', rs', nx'⟩)) ⟨env', F, rs, nx⟩) :
    vcOps P tb N false all (⟨some d, .call ⟨.value f, args, ts⟩, ty, pos, af, none⟩ :: rest) K [] ⟨env, F, rs, nx⟩ := by
  have hd' : d < N := by simpa using hd
  subst hn hrv henv
  refine .inr (.inl ⟨rfl, ?_⟩)
  simp only [memV, hf, he, inGo]
  refine ⟨hb, _, callin_of_vc htb hm hfn hbody hN k, fun e F' rs' nx' _ _ h => ?_⟩
  simp only [putE, putV]
  exact ⟨hd', h⟩
theorem s_inend {rv : List ResultVar} {Q : EV → Hp → RL → Nat → Prop} {e : EV} (h : resE tb st rv = some e) (k : Q e st.F st.rs st.nx) : retI N tb rv Q .ret st := VS.id ⟨e, h, k⟩
theorem s_inendn {rv : List ResultVar} {Q : EV → Hp → RL → Nat → Prop} {e : EV} (h : resE tb st rv = some e) (k : Q e st.F st.rs st.nx) : retI N tb rv Q .normal st := VS.id ⟨e, h, k⟩

/-! The end of a function that hands memory over. -/
theorem s_retG {rv : List ResultVar} {Q : Value → Hp → RL → Prop} (h : VS N [] st fun st' => ∃ xs, resV tb st' rv = some xs ∧ Q (tupV xs) st'.F st'.rs) : retG N tb rv Q .ret st := fun c a w _ hs => h c a w hs
theorem s_retGn {rv : List ResultVar} {Q : Value → Hp → RL → Prop} (h : VS N [] st fun st' => ∃ xs, resV tb st' rv = some xs ∧ Q (tupV xs) st'.F st'.rs) : retG N tb rv Q .normal st := fun c a w _ hs => h c a w hs
theorem s_retGf {rv : List ResultVar} {Q : Value → Hp → RL → Prop} (h : VSf 0 N [] st fun st' => ∃ xs, resV tb st' rv = some xs ∧ Q (tupV xs) st'.F st'.rs) : retG N tb rv Q .ret st := h

/-! A region's schedule. -/
theorem s_stop {ops : Array Oper} {kept : List Nat} {K : St → Prop} {m f : Nat} {done : Array Bool} (h : Region.ready .any ops done = []) (k : K st) : vcAny P tb N ops kept K (m + 1) f done g st := .inl ⟨h, VS.id k⟩
theorem s_firsts {ops : Array Oper} {kept : List Nat} {K : St → Prop} {m f' : Nat} {done : Array Bool} {env : Env} {F : Hp} {rs rsm : RL} {nx : Nat} (is : List Nat) {l lo : List Oper} (hB : firstsB .any ops done is = true) (hlo : ops.toList = lo) (hl : sel lo is = some l) (hm : mask kept rs = rsm) (k : vcOps P tb N true lo l (backK rs (vcAny P tb N ops kept K m f' (setAll done is))) g ⟨env, F, rsm, nx⟩) :
    vcAny P tb N ops kept K (m + 1) (f' + is.length) done g ⟨env, F, rs, nx⟩ := by
  subst hm hlo
  exact .inr (.inl ⟨f', is, l, rfl, hB, hl, k⟩)
theorem s_back {env : Env} {F : Hp} {rs rs' : RL} {nx : Nat} (k : K g ⟨env, F, rs, nx⟩) : backK rs K g ⟨env, F, rs', nx⟩ := k
theorem s_one {ops : Array Oper} {kept : List Nat} {K : St → Prop} {m f' : Nat} {done : Array Bool} {lo : List Oper} (i : Nat) {o : Oper} (hr : Region.ready .any ops done = [i]) (hlo : ops.toList = lo) (ho : lo[i]? = some o) (k : vcOps P tb N false lo [o] (brK kept st.F st.rs (vcAny P tb N ops kept K m f' (done.setIfInBounds i true))) g st) :
    vcAny P tb N ops kept K (m + 1) (f' + 1) done g st := by
  subst hlo
  refine .inr (.inr ⟨f', rfl, by rw [hr]; simp, fun j hj => ?_⟩)
  rw [hr, List.mem_singleton] at hj
  subst hj
  obtain ⟨d, op, ty, pos, af, gd⟩ := o
  exact ⟨⟨d, op, ty, pos, af, gd⟩, by simpa using ho, k⟩
theorem s_two {ops : Array Oper} {kept : List Nat} {K : St → Prop} {m f' : Nat} {done : Array Bool} {lo : List Oper} (i j : Nat) {o o' : Oper} (hr : Region.ready .any ops done = [i, j]) (hlo : ops.toList = lo) (ho : lo[i]? = some o) (ho' : lo[j]? = some o') (k : vcOps P tb N false lo [o] (brK kept st.F st.rs (vcAny P tb N ops kept K m f' (done.setIfInBounds i true))) g st)
    (k' : vcOps P tb N false lo [o'] (brK kept st.F st.rs (vcAny P tb N ops kept K m f' (done.setIfInBounds j true))) g st) : vcAny P tb N ops kept K (m + 1) (f' + 1) done g st := by
  subst hlo
  refine .inr (.inr ⟨f', rfl, by rw [hr]; simp, fun q hq => ?_⟩)
  rw [hr] at hq
  obtain ⟨d, op, ty, pos, af, gd⟩ := o
  obtain ⟨d', op', ty', pos', af', gd'⟩ := o'
  simp only [List.mem_cons, List.not_mem_nil, or_false] at hq
  rcases hq with rfl | rfl
  · exact ⟨⟨d, op, ty, pos, af, gd⟩, by simpa using ho, k⟩
  · exact ⟨⟨d', op', ty', pos', af', gd'⟩, by simpa using ho', k'⟩
theorem s_br {kept : List Nat} {F : Hp} {rs : RL} (h1 : F.sub st.F) (h2 : keptOK rs st.rs kept) (k : K g st) : brK kept F rs K g st := ⟨⟨h1, h2⟩, k⟩
end
end Go.TR
