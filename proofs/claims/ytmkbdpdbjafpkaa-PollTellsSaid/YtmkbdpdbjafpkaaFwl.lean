/-
A small program logic of our own for the model. Part l: the steps for calls, loads out of the frozen part, loops, ends; view shifts. Nothing here speaks of one program.
-/
import Derived.Test.YtmkbdpdbjafpkaaFwk
namespace Go.TR
section
variable {P : Program} {tb : Tb} {N : Nat} {dr : Bool} {all rest : List Oper} {K : St → Prop} {KK : Exit → St → Prop} {g : GEnv} {st : St}

theorem VS.id {G : St → Prop} (h : G st) : VS N g st G := fun _ _ _ hs => ⟨st, hs, h⟩

theorem callEff_of_plain {f : FuncId} {args : List Value} {x : Value} {d : Option Nat} {K : GEnv → St → Prop} {env : Env} {F : Hp} {rs : RL} {nx : Nat} (hp : Plain P F f args x) (hk : putV N [] d (.v x) K g ⟨env, F, rs, nx⟩) : callEff P N f args d K g ⟨env, F, rs, nx⟩ := by
  refine VS.id ⟨fun v F' new => v = x ∧ F' = F ∧ new = [], fun w hF => ?_, ?_⟩
  · refine (hp w hF).mono fun e w' ⟨he, hpr⟩ => ⟨x, F, [], he, Hp.sub.refl F, hF.pres hpr (by simp), hpr, fun k hk => .inl hk, ⟨fun id r h => by simp [lkR] at h, fun i j r s b h => by simp [lkR] at h⟩, fun id r b h => by simp [lkR] at h, rfl, rfl, rfl⟩
  · rintro v F' new ⟨rfl, rfl, rfl⟩
    exact ⟨0, .v v, fun id r h => by simp [lkR] at h, rfl, hk⟩
/-- A call that gives one plain value: unguarded. -/
theorem s_plain {d : Nat} {f : Operand} {args : Array Operand} {ts : Array TypeId} {n : FuncId} {first captured : Array Value} {xs ys : List Value} {ty : TypeId} {pos : String} {af : Array Edge} {env : Env} {F : Hp} {rs : RL} {nx : Nat} (x : Value)
    (hf : opd rs [] env [] f = some (.v (.func (.func n) first captured))) (hx : vals rs (opd rs [] env []) args.toList = some xs) (hy' : forceL (first.toList ++ xs ++ captured.toList) = some ys) (hb : bodied P n) (hd : Nat.blt d N = true) (hp : Plain P F n ys x)
    (k : vcOps P tb N dr all rest K [] ⟨(d, .v x) :: env, F, rs, nx⟩) : vcOps P tb N dr all (⟨some d, .call ⟨.value f, args, ts⟩, ty, pos, af, none⟩ :: rest) K [] ⟨env, F, rs, nx⟩ := by
  have hd' : d < N := by simpa using hd
  rw [forceL_eq, Option.some.injEq] at hy'
  subst hy'
  simp only [vcOps, stepV, opV, hf, hx, callGo]
  refine ⟨hb, ?_⟩
  have hput : putV N [] (some d) (.v x) (vcOps P tb N dr all rest K) [] ⟨env, F, rs, nx⟩ := by simp only [putV]; exact ⟨hd', k⟩
  cases dr with
  | true => exact ⟨x, hp, hput⟩
  | false => exact callEff_of_plain hp hput
theorem s_plainG {d : Nat} {f : Operand} {args : Array Operand} {ts : Array TypeId} {n : FuncId} {first captured : Array Value} {xs ys : List Value} {ty : TypeId} {pos : String} {af : Array Edge} {env : Env} {F : Hp} {rs : RL} {nx : Nat} {y : Nat × Chain × EV} (x : Value)
    (hf : opd rs (y :: g) env [] f = some (.v (.func (.func n) first captured))) (hx : vals rs (opd rs (y :: g) env []) args.toList = some xs) (hy' : forceL (first.toList ++ xs ++ captured.toList) = some ys) (hb : bodied P n) (hd : Nat.blt d N = true) (hc : chainFree d (y :: g) = true) (hp : Plain P F n ys x)
    (k : vcOps P tb N dr all rest K (y :: g) ⟨(d, .v x) :: env, F, rs, nx⟩) : vcOps P tb N dr all (⟨some d, .call ⟨.value f, args, ts⟩, ty, pos, af, none⟩ :: rest) K (y :: g) ⟨env, F, rs, nx⟩ := by
  have hd' : d < N := by simpa using hd
  rw [forceL_eq, Option.some.injEq] at hy'
  subst hy'
  simp only [vcOps, stepV, opV, hf, hx, callGo]
  refine ⟨hb, ?_⟩
  have hput : putV N [] (some d) (.v x) (vcOps P tb N dr all rest K) (y :: g) ⟨env, F, rs, nx⟩ := by simp only [putV]; exact ⟨hd', hc, k⟩
  cases dr with
  | true => exact ⟨x, hp, hput⟩
  | false => exact callEff_of_plain hp hput
/-- .. guarded. -/
theorem s_gplain {d j : Nat} {want : Bool} {f : Operand} {args : Array Operand} {ts : Array TypeId} {n : FuncId} {first captured : Array Value} {xs ys : List Value} {ty : TypeId} {pos : String} {af : Array Edge} {env : Env} {F : Hp} {rs : RL} {nx : Nat} {c : Nat × Bool × Bool} {ch : Chain} (x : Value)
    (hg : chainOf all g env j want = some (c :: ch)) (hf : opd rs g env (c :: ch) f = some (.v (.func (.func n) first captured))) (hx : vals rs (opd rs g env (c :: ch)) args.toList = some xs) (hy' : forceL (first.toList ++ xs ++ captured.toList) = some ys) (hb : bodied P n) (hd : Nat.blt d N = true) (hc : (chainFree d g && envFree d env) = true)
    (hp : gP (c :: ch) → Plain P F n ys x)
    (k : vcOps P tb N dr all rest K ((d, c :: ch, .v x) :: g) ⟨env, F, rs, nx⟩) : vcOps P tb N dr all (⟨some d, .call ⟨.value f, args, ts⟩, ty, pos, af, some (j, want)⟩ :: rest) K g ⟨env, F, rs, nx⟩ := by
  have hd' : d < N := by simpa using hd
  rw [forceL_eq, Option.some.injEq] at hy'
  subst hy'
  simp only [vcOps, stepV_guard (st := ⟨env, F, rs, nx⟩) hg, opV, hf, hx, callGo]
  refine ⟨hb, ?_⟩
  have hput : putV N (c :: ch) (some d) (.v x) (vcOps P tb N dr all rest K) g ⟨env, F, rs, nx⟩ := by simp only [putV]; exact ⟨hd', hc, k⟩
  cases dr with
  | true => exact ⟨x, hp, hput⟩
  | false => exact ⟨x, hp, hput⟩
/-- One cell out of the frozen part. -/
theorem s_load {d : Nat} {t : TypeId} {a : Operand} {ty : TypeId} {pos : String} {af : Array Edge} {env : Env} {F : Hp} {rs : RL} {nx : Nat} {i : TI} {p : Option Addr} (x : Value) (hi : tb t = some i) (ha : i.kind.agg = false) (hp : opd rs [] env [] a = some (.v (.pointer p))) (hd : Nat.blt d N = true) (hx : Pcell F p = some x)
    (k : vcOps P tb N dr all rest K [] ⟨(d, .v x) :: env, F, rs, nx⟩) : vcOps P tb N dr all (⟨some d, .load t a, ty, pos, af, none⟩ :: rest) K [] ⟨env, F, rs, nx⟩ := by
  have hd' : d < N := by simpa using hd
  simp only [vcOps, stepV, opV, hi, hp, loadGo, ha, loadF, putK, putV]
  exact ⟨x, hx, hd', k⟩
theorem s_gload {d j : Nat} {want : Bool} {t : TypeId} {a : Operand} {ty : TypeId} {pos : String} {af : Array Edge} {env : Env} {F : Hp} {rs : RL} {nx : Nat} {i : TI} {p : Option Addr} {c : Nat × Bool × Bool} {ch : Chain} (x : Value) (hg : chainOf all g env j want = some (c :: ch)) (hi : tb t = some i) (ha : i.kind.agg = false)
    (hp : opd rs g env (c :: ch) a = some (.v (.pointer p))) (hd : Nat.blt d N = true) (hc : (chainFree d g && envFree d env) = true) (hx : gP (c :: ch) → Pcell F p = some x)
    (k : vcOps P tb N dr all rest K ((d, c :: ch, .v x) :: g) ⟨env, F, rs, nx⟩) : vcOps P tb N dr all (⟨some d, .load t a, ty, pos, af, some (j, want)⟩ :: rest) K g ⟨env, F, rs, nx⟩ := by
  have hd' : d < N := by simpa using hd
  simp only [vcOps, stepV_guard (st := ⟨env, F, rs, nx⟩) hg, opV, hi, hp, loadGo, ha, loadF, putK, putV]
  exact ⟨x, hx, hd', hc, k⟩
/-- The cells of an aggregate out of the frozen part. -/
theorem s_loadA {d : Nat} {t : TypeId} {a : Operand} {ty : TypeId} {pos : String} {af : Array Edge} {env : Env} {F : Hp} {rs : RL} {nx : Nat} {i : TI} {p : Option Addr} (cs : List Value) (hi : tb t = some i) (ha : i.kind.agg = true) (hp : opd rs [] env [] a = some (.v (.pointer p))) (hd : Nat.blt d N = true) (hl : cs.length = i.size)
    (hs : p.isSome = true) (hx : ∀ j, j < i.size → Pcell F (padd p j) = cs[j]?)
    (k : vcOps P tb N dr all rest K [] ⟨(d, .v (.agg cs.toArray)) :: env, F, rs, nx⟩) : vcOps P tb N dr all (⟨some d, .load t a, ty, pos, af, none⟩ :: rest) K [] ⟨env, F, rs, nx⟩ := by
  have hd' : d < N := by simpa using hd
  simp only [vcOps, stepV, opV, hi, hp, loadGo, ha, loadF, putK, putV]
  exact ⟨cs, hl, ⟨hs, hx⟩, hd', k⟩

/-! The table of types. -/
def lkT : List (Nat × TI) → Tb
  | [], _ => none
  | (m, i) :: t, n => match Nat.beq n m with
    | true => some i
    | false => lkT t n
def AllOK (P : Program) : List (Nat × TI) → Prop
  | [] => True
  | (m, i) :: t => i.ok P m ∧ AllOK P t
theorem lkT_ok : ∀ {l : List (Nat × TI)}, AllOK P l → TbOK P (lkT l)
  | [], _, t, i, h => by simp [lkT] at h
  | (m, j) :: l, h0, t, i, h => by
    simp only [lkT] at h
    split at h
    · rename_i hb
      simp only [Option.some.injEq] at h
      subst h
      have := Nat.eq_of_beq_eq_true hb
      subst this
      exact h0.1
    · exact lkT_ok h0.2 t i h

/-! View shifts that only drop or rename. -/
def EnvSub (rs rs' : RL) (env : Env) : Env → Prop
  | [] => True
  | (n, e) :: t => (∃ e' x, lk env n = some e' ∧ e'.val rs = some x ∧ e.val rs' = some x) ∧ EnvSub rs rs' env t
theorem EnvSub.lk {rs rs' : RL} {env : Env} : ∀ {env' : Env}, EnvSub rs rs' env env' → ∀ n e, lk env' n = some e → ∃ e' x, Go.TR.lk env n = some e' ∧ e'.val rs = some x ∧ e.val rs' = some x
  | [], _, n, e, h => by simp [Go.TR.lk] at h
  | (m, v) :: t, hs, n, e, h => by
    rw [lk_cons] at h
    split at h
    · rename_i hn
      simp only [Option.some.injEq] at h
      subst hn h
      exact hs.1
    · exact EnvSub.lk hs.2 n e h
/-- The same blocks; the slots that are named. -/
theorem VS.env {env env' : Env} {F : Hp} {rs : RL} {nx : Nat} {G : St → Prop} (h : EnvSub rs rs env env') (k : G ⟨env', F, rs, nx⟩) : VS N [] ⟨env, F, rs, nx⟩ G := by
  intro c a w hs
  refine ⟨_, ?_, k⟩
  exact {
    size := hs.size
    defers := hs.defers
    wok := hs.wok
    rids := hs.rids
    ids := fun n e he => by
      obtain ⟨e', x, h1, h2, h3⟩ := h.lk n e he
      exact lt_of_val (fun id r hr => (hs.rids id r hr).1) h3
    env := fun n e x _ he hx => by
      obtain ⟨e', x', h1, h2, h3⟩ := h.lk n e he
      have := hs.env n e' x' rfl h1 h2
      simp only at hx
      rw [hx] at h3
      rw [this]
      exact (Option.some.inj h3).symm
    gv := fun n ch e he => by simp [lkG] at he }

/-- The named slots alone. -/
def keepE (rs : RL) (env : Env) : List Nat → Option Env
  | [] => some []
  | n :: t => match Go.TR.lk env n with
    | some e => (match alive rs e, keepE rs env t with
      | some e', some l => some ((n, e') :: l)
      | _, _ => none)
    | none => none
theorem keepE_sub {rs : RL} {env : Env} : ∀ {slots : List Nat} {env' : Env}, keepE rs env slots = some env' → EnvSub rs rs env env'
  | [], env', h => by simp only [keepE, Option.some.injEq] at h; subst h; trivial
  | n :: t, env', h => by
    simp only [keepE] at h
    split at h
    · rename_i e he
      split at h
      · rename_i e' l ha hl
        simp only [Option.some.injEq] at h
        subst h
        obtain ⟨rfl, x, hx⟩ := alive_val ha
        exact ⟨⟨_, x, he, hx, hx⟩, keepE_sub hl⟩
      · simp at h
    · simp at h
theorem VS.keep {env env' : Env} {F : Hp} {rs : RL} {nx : Nat} {G : St → Prop} (slots : List Nat) (h : keepE rs env slots = some env') (k : G ⟨env', F, rs, nx⟩) : VS N [] ⟨env, F, rs, nx⟩ G := VS.env (keepE_sub h) k

/-! Loops. -/
theorem s_loop {x : Code} {ι : Type} (T : ι → St) (μ : ι → Nat) (i : ι) (h0 : VS N [] st fun st' => st' = T i) (hr : ∀ i, vc P tb N x (loopK N T μ i KK) (T i)) : vc P tb N (.loop x) KK st :=
  ⟨ι, T, μ, fun c a w hs => by
    obtain ⟨st', h1, h2⟩ := h0 c a w hs
    exact ⟨st', h1, i, h2⟩, hr⟩
theorem s_loopn {ι : Type} {T : ι → St} {μ : ι → Nat} {i : ι} (j : ι) (hj : μ j < μ i) (h : VS N [] st fun st' => st' = T j) : loopK N T μ i KK .normal st := fun c a w hs => by
  obtain ⟨st', h1, h2⟩ := h c a w hs
  exact ⟨st', h1, j, h2, hj⟩
theorem s_loopr {ι : Type} {T : ι → St} {μ : ι → Nat} {i : ι} (k : KK .ret st) : loopK N T μ i KK .ret st := k
theorem s_loope {ι : Type} {T : ι → St} {μ : ι → Nat} {i : ι} {id : Nat} (k : KK (.exit id) st) : loopK N T μ i KK (.exit id) st := k

/-! Contracts, with the numbers of the function laid open. -/
theorem plain_vc (htb : TbOK P tb) (hm : P.follows .mixedOrders = true) {f : FuncId} {fn : Func} (hf : P.funcs[f]? = some fn) {code : Code} (hb : fn.body = some code) {N : Nat} (hn : fn.ntmps = N) {rv : List ResultVar} (hr : fn.results.toList = rv) {args : List Value} {env : Env} (he : paramEnv 0 args = env)
    (hN : Nat.ble args.length N = true) {F : Hp} {x : Value} (h : vc P tb N code (retK tb rv (fun v => v = x)) ⟨env, F, [], 0⟩) : Plain P F f args x := by
  subst hn hr he
  exact plain_of_vc htb hm hf hb hN h
theorem call_vc (htb : TbOK P tb) (hm : P.follows .mixedOrders = true) {f : FuncId} {fn : Func} (hf : P.funcs[f]? = some fn) {code : Code} (hb : fn.body = some code) {N : Nat} (hn : fn.ntmps = N) {rv : List ResultVar} (hr : fn.results.toList = rv) {args : List Value} {env : Env} (he : paramEnv 0 args = env)
    (hN : Nat.ble args.length N = true) {F : Hp} {Q : Value → Hp → RL → Prop} (hsub : ∀ x F' new, Q x F' new → F.sub F') (h : vc P tb N code (retG N tb rv Q) ⟨env, F, [], 0⟩) : CallOK P F f args Q := by
  subst hn hr he
  exact call_of_vc htb hm hf hb hN hsub h
/-- At an undecided test. -/
theorem s_if {c : Operand} {x y : Code} (b : Bool) (h : opd st.rs [] st.env [] c = some (.v (.bool b))) (k1 : b = true → vc P tb N x KK st) (k2 : b = false → vc P tb N y KK st) : vc P tb N (.cond c x y) KK st := s_cond h k1 k2
end
end Go.TR
