/-
A small program logic of our own for the model. Part c: the evaluator's steps as lemmas, one a kind of operation; each is used by 'refine'. Nothing here speaks of one program.
-/
import Derived.Test.YtaienbnadbadfaaFwb
namespace Go.TR
section
variable {P : Program} {tb : Tb} {N : Nat} {dr : Bool} {all rest : List Oper} {K : GEnv → St → Prop} {KK : Exit → St → Prop} {g : GEnv} {st : St}

/-- The same list, its cells laid out one by one (so that a unifier that goes to the head alone lays all of it out). -/
def forceL {α : Type} : List α → Option (List α)
  | [] => some []
  | x :: t => match forceL t with
    | some l => some (x :: l)
    | none => none
theorem forceL_eq {α : Type} : ∀ l : List α, forceL l = some l
  | [] => rfl
  | x :: t => by simp only [forceL, forceL_eq t]
def aggF (ob : Prop) (cs : Array Value) : PV :=
  match forceL cs.toList with
  | some l => some (ob, .v (.agg l.toArray))
  | none => none
def normPV : PV → PV
  | some (ob, .v (.agg cs)) => aggF ob cs
  | some (ob, .v (.bool x)) => some (ob, .v (.bool x))
  | some (ob, .v (.int k x)) => some (ob, .v (.int k x))
  | some (ob, .v x) => some (ob, .v x)
  | some (ob, .loc i o) => some (ob, .loc i o)
  | some (ob, .row i o n c) => some (ob, .row i o n c)
  | none => none
theorem normPV_eq (p : PV) : normPV p = p := by
  unfold normPV
  split <;> try rfl
  rename_i ob cs
  simp only [aggF, forceL_eq]
def isPure : Op → Bool
  | .move _ | .assign _ | .build _ _ | .nilCheck _ | .binOp _ _ _ _ _ | .unOp _ _ _ | .convert _ _ _ | .makeFunc _ _ _ | .slice _ _ _ _ _ | .fieldAddr _ _ _ | .field _ _ _
  | .indexAddr _ _ _ | .index _ _ _ | .extract _ _ => true
  | .call ⟨.builtin _, _, _⟩ => true
  | _ => false
theorem opV_pure {op : Op} (h : isPure op = true) {ch : Chain} {d : Option Nat} {K : GEnv → St → Prop} : opV P tb N dr ch d K g st op = putO N (pv tb st.rs (opd st.rs g st.env ch) op) ch d K g st := by
  cases op <;> first | rfl | cases h | skip
  rename_i c
  obtain ⟨c, a, t⟩ := c
  cases c <;> first | rfl | cases h

/-- An unguarded pure operation without a condition. -/
theorem s_pure {d : Nat} {op : Op} {ty : TypeId} {pos : String} {af : Array Edge} {env : Env} {F : Hp} {rs : RL} {nx : Nat} {e : EV} (hp : isPure op = true) (h : normPV (pv tb rs (opd rs [] env []) op) = some (True, e)) (hd : Nat.blt d N = true)
    (k : vcOps P tb N dr all rest K [] ⟨(d, e) :: env, F, rs, nx⟩) : vcOps P tb N dr all (⟨some d, op, ty, pos, af, none⟩ :: rest) K [] ⟨env, F, rs, nx⟩ := by
  have hd' : d < N := by simpa using hd
  rw [normPV_eq] at h
  refine .inl ?_
  simp only [opV_pure hp, h, putO, putV, imp]
  exact ⟨trivial, hd', k⟩
theorem s_pureG {d : Nat} {op : Op} {ty : TypeId} {pos : String} {af : Array Edge} {env : Env} {F : Hp} {rs : RL} {nx : Nat} {x : Nat × Chain × EV} {e : EV} (hp : isPure op = true) (h : normPV (pv tb rs (opd rs (x :: g) env []) op) = some (True, e)) (hd : Nat.blt d N = true) (hc : chainFree d (x :: g) = true)
    (k : vcOps P tb N dr all rest K (x :: g) ⟨(d, e) :: env, F, rs, nx⟩) : vcOps P tb N dr all (⟨some d, op, ty, pos, af, none⟩ :: rest) K (x :: g) ⟨env, F, rs, nx⟩ := by
  have hd' : d < N := by simpa using hd
  rw [normPV_eq] at h
  refine .inl ?_
  simp only [opV_pure hp, h, putO, putV, imp]
  exact ⟨trivial, hd', hc, k⟩
/-- .. with a condition. -/
theorem s_pureO {d : Nat} {op : Op} {ty : TypeId} {pos : String} {af : Array Edge} {env : Env} {F : Hp} {rs : RL} {nx : Nat} {e : EV} {ob : Prop} (hp : isPure op = true) (h : normPV (pv tb rs (opd rs [] env []) op) = some (ob, e)) (hd : Nat.blt d N = true) (ho : ob)
    (k : vcOps P tb N dr all rest K [] ⟨(d, e) :: env, F, rs, nx⟩) : vcOps P tb N dr all (⟨some d, op, ty, pos, af, none⟩ :: rest) K [] ⟨env, F, rs, nx⟩ := by
  have hd' : d < N := by simpa using hd
  rw [normPV_eq] at h
  refine .inl ?_
  simp only [opV_pure hp, h, putO, putV, imp]
  exact ⟨ho, hd', k⟩
/-- The chain of an operation that is guarded by the answer of operation j. -/
def chainOf (all : List Oper) (g : GEnv) (env : Env) (j : Nat) (want : Bool) : Option Chain :=
  match dstOf all[j]? with
  | some s => (match lkG g s with
    | some (c, .v (.bool b)) => some (c ++ [(s, want, b)])
    | some _ => none
    | none => (match lk env s with
      | some (.v (.bool b)) => some [(s, want, b)]
      | _ => none))
  | none => none
theorem stepV_guard {op : Op} {d : Option Nat} {K : GEnv → St → Prop} {j : Nat} {want : Bool} {ch : Chain} (h : chainOf all g st.env j want = some ch) (k : opV P tb N dr ch d K g st op) : stepV P tb N dr all op d K g st (some (j, want)) := by
  suffices e : guardS P tb N dr want op d K g st (dstOf all[j]?) = opV P tb N dr ch d K g st op from .inl (by rw [e]; exact k)
  unfold chainOf at h
  cases hd : dstOf all[j]? with
  | none => simp [hd] at h
  | some s =>
    simp only [hd] at h
    simp only [guardS]
    cases hg : lkG g s with
    | some cv =>
      obtain ⟨c, ev⟩ := cv
      simp only [hg] at h
      cases ev with
      | v x => cases x <;> simp at h <;> subst h <;> rfl
      | loc _ _ => simp at h
      | row _ _ _ _ => simp at h
    | none =>
      simp only [hg] at h
      simp only [guardG]
      cases he : lk st.env s with
      | none => simp [he] at h
      | some ev =>
        simp only [he] at h
        cases ev with
        | v x => cases x <;> simp at h <;> subst h <;> rfl
        | loc _ _ => simp at h
        | row _ _ _ _ => simp at h
theorem s_gpure {d j : Nat} {want : Bool} {op : Op} {ty : TypeId} {pos : String} {af : Array Edge} {env : Env} {F : Hp} {rs : RL} {nx : Nat} {e : EV} {c : Nat × Bool × Bool} {ch : Chain} (hp : isPure op = true) (hg : chainOf all g env j want = some (c :: ch))
    (h : normPV (pv tb rs (opd rs g env (c :: ch)) op) = some (True, e)) (hd : Nat.blt d N = true) (hc : (chainFree d g && envFree d env) = true)
    (k : vcOps P tb N dr all rest K ((d, c :: ch, e) :: g) ⟨env, F, rs, nx⟩) : vcOps P tb N dr all (⟨some d, op, ty, pos, af, some (j, want)⟩ :: rest) K g ⟨env, F, rs, nx⟩ := by
  have hd' : d < N := by simpa using hd
  rw [normPV_eq] at h
  refine stepV_guard (st := ⟨env, F, rs, nx⟩) hg ?_
  simp only [opV_pure hp, h, putO, putV, imp]
  exact ⟨fun _ => trivial, hd', hc, k⟩
theorem s_gpureO {d j : Nat} {want : Bool} {op : Op} {ty : TypeId} {pos : String} {af : Array Edge} {env : Env} {F : Hp} {rs : RL} {nx : Nat} {e : EV} {c : Nat × Bool × Bool} {ch : Chain} {ob : Prop} (hp : isPure op = true) (hg : chainOf all g env j want = some (c :: ch))
    (h : normPV (pv tb rs (opd rs g env (c :: ch)) op) = some (ob, e)) (hd : Nat.blt d N = true) (hc : (chainFree d g && envFree d env) = true) (ho : gP (c :: ch) → ob)
    (k : vcOps P tb N dr all rest K ((d, c :: ch, e) :: g) ⟨env, F, rs, nx⟩) : vcOps P tb N dr all (⟨some d, op, ty, pos, af, some (j, want)⟩ :: rest) K g ⟨env, F, rs, nx⟩ := by
  have hd' : d < N := by simpa using hd
  rw [normPV_eq] at h
  refine stepV_guard (st := ⟨env, F, rs, nx⟩) hg ?_
  simp only [opV_pure hp, h, putO, putV, imp]
  exact ⟨ho, hd', hc, k⟩
/-- The merge of '&&', '||'. -/
def pickE (rs : RL) (g : GEnv) (env : Env) (ch : Chain) (c : Nat) (a b : Operand) : Option Bool :=
  match opd rs g env ch (.tmp c) with
  | some (.v (.bool t)) => (match opd rs g env (ch ++ [(c, true, t)]) a, opd rs g env (ch ++ [(c, false, t)]) b with
    | some (.v (.bool x)), some (.v (.bool y)) => some (bpick t x y)
    | _, _ => none)
  | _ => none
theorem opV_pick {ch : Chain} {d : Option Nat} {K : GEnv → St → Prop} {c : Nat} {a b : Operand} {r : Bool} (h : pickE st.rs g st.env ch c a b = some r) (k : putV N ch d (.v (.bool r)) K g st) : opV P tb N dr ch d K g st (.pick (.tmp c) a b) := by
  left
  unfold pickE at h
  split at h
  · rename_i t ht
    simp only [ht, pickTo]
    split at h
    · rename_i x y hx hy
      simp only [hx, hy, pickGo]
      simp only [Option.some.injEq] at h
      subst h
      exact k
    · simp at h
  · simp at h
/-- The merge where the answer is known. -/
def pickKE (rs : RL) (g : GEnv) (env : Env) (ch : Chain) (c : Nat) (a b : Operand) : Option EV :=
  match opd rs g env ch (.tmp c) with
  | some (.v (.bool true)) => opd rs g env ch a
  | some (.v (.bool false)) => opd rs g env ch b
  | _ => none
theorem opV_pickK {ch : Chain} {d : Option Nat} {K : GEnv → St → Prop} {c : Nat} {a b : Operand} {e : EV} (h : pickKE st.rs g st.env ch c a b = some e) (k : putV N ch d e K g st) : opV P tb N dr ch d K g st (.pick (.tmp c) a b) := by
  right
  unfold pickKE at h
  split at h
  · rename_i ht
    simp only [ht, pickN, h, pickO]
    exact k
  · rename_i ht
    simp only [ht, pickN, h, pickO]
    exact k
  · simp at h
theorem s_pickK {d c : Nat} {a b : Operand} {ty : TypeId} {pos : String} {af : Array Edge} {env : Env} {F : Hp} {rs : RL} {nx : Nat} {e : EV} (h : pickKE rs [] env [] c a b = some e) (hd : Nat.blt d N = true)
    (k : vcOps P tb N dr all rest K [] ⟨(d, e) :: env, F, rs, nx⟩) : vcOps P tb N dr all (⟨some d, .pick (.tmp c) a b, ty, pos, af, none⟩ :: rest) K [] ⟨env, F, rs, nx⟩ := by
  have hd' : d < N := by simpa using hd
  refine .inl (opV_pickK (st := ⟨env, F, rs, nx⟩) h ?_)
  simp only [putV]
  exact ⟨hd', k⟩
theorem s_pick {d c : Nat} {a b : Operand} {ty : TypeId} {pos : String} {af : Array Edge} {env : Env} {F : Hp} {rs : RL} {nx : Nat} {x : Nat × Chain × EV} {r : Bool} (h : pickE rs (x :: g) env [] c a b = some r) (hd : Nat.blt d N = true) (hc : chainFree d (x :: g) = true)
    (k : vcOps P tb N dr all rest K (x :: g) ⟨(d, .v (.bool r)) :: env, F, rs, nx⟩) : vcOps P tb N dr all (⟨some d, .pick (.tmp c) a b, ty, pos, af, none⟩ :: rest) K (x :: g) ⟨env, F, rs, nx⟩ := by
  have hd' : d < N := by simpa using hd
  refine .inl (opV_pick (st := ⟨env, F, rs, nx⟩) h ?_)
  simp only [putV]
  exact ⟨hd', hc, k⟩
theorem s_pick0 {d c : Nat} {a b : Operand} {ty : TypeId} {pos : String} {af : Array Edge} {env : Env} {F : Hp} {rs : RL} {nx : Nat} {r : Bool} (h : pickE rs [] env [] c a b = some r) (hd : Nat.blt d N = true)
    (k : vcOps P tb N dr all rest K [] ⟨(d, .v (.bool r)) :: env, F, rs, nx⟩) : vcOps P tb N dr all (⟨some d, .pick (.tmp c) a b, ty, pos, af, none⟩ :: rest) K [] ⟨env, F, rs, nx⟩ := by
  have hd' : d < N := by simpa using hd
  refine .inl (opV_pick (st := ⟨env, F, rs, nx⟩) h ?_)
  simp only [putV]
  exact ⟨hd', k⟩
theorem s_gpick {d j c : Nat} {want : Bool} {a b : Operand} {ty : TypeId} {pos : String} {af : Array Edge} {env : Env} {F : Hp} {rs : RL} {nx : Nat} {cc : Nat × Bool × Bool} {ch : Chain} {r : Bool} (hg : chainOf all g env j want = some (cc :: ch)) (h : pickE rs g env (cc :: ch) c a b = some r) (hd : Nat.blt d N = true) (hc : (chainFree d g && envFree d env) = true)
    (k : vcOps P tb N dr all rest K ((d, cc :: ch, .v (.bool r)) :: g) ⟨env, F, rs, nx⟩) : vcOps P tb N dr all (⟨some d, .pick (.tmp c) a b, ty, pos, af, some (j, want)⟩ :: rest) K g ⟨env, F, rs, nx⟩ := by
  have hd' : d < N := by simpa using hd
  refine stepV_guard (st := ⟨env, F, rs, nx⟩) hg (opV_pick (st := ⟨env, F, rs, nx⟩) h ?_)
  simp only [putV]
  exact ⟨hd', hc, k⟩

/-! Guards whose answer is known. -/
theorem s_known {d : Option Nat} {j s : Nat} {want : Bool} {op : Op} {ty : TypeId} {pos : String} {af : Array Edge} (hs : dstOf all[j]? = some s) (h1 : lkG g s = none) (h2 : lk st.env s = some (.v (.bool want)))
    (k : vcOps P tb N dr all (⟨d, op, ty, pos, af, none⟩ :: rest) K g st) : vcOps P tb N dr all (⟨d, op, ty, pos, af, some (j, want)⟩ :: rest) K g st := by
  simp only [vcOps, stepV] at k ⊢
  right
  rw [hs]
  exact ⟨.bool want, h1, h2, .inl ⟨rfl, k⟩⟩
theorem s_unwanted0 {d j s : Nat} {want : Bool} {op : Op} {ty : TypeId} {pos : String} {af : Array Edge} {env : Env} {F : Hp} {rs : RL} {nx : Nat} {b : Value} (hs : dstOf all[j]? = some s) (h2 : lk env s = some (.v b)) (hb : b ≠ .bool want) (hd : Nat.blt d N = true)
    (k : vcOps P tb N dr all rest K [] ⟨(d, .v (.tuple #[])) :: env, F, rs, nx⟩) : vcOps P tb N dr all (⟨some d, op, ty, pos, af, some (j, want)⟩ :: rest) K [] ⟨env, F, rs, nx⟩ := by
  have hd' : d < N := by simpa using hd
  simp only [vcOps, stepV]
  right
  rw [hs]
  refine ⟨b, rfl, h2, .inr ⟨hb, ?_⟩⟩
  simp only [skipV, putV]
  exact ⟨hd', k⟩
theorem s_unwantedG0 {d j s : Nat} {want : Bool} {op : Op} {ty : TypeId} {pos : String} {af : Array Edge} {env : Env} {F : Hp} {rs : RL} {nx : Nat} {b : Value} {x : Nat × Chain × EV} (hs : dstOf all[j]? = some s) (h1 : lkG (x :: g) s = none) (h2 : lk env s = some (.v b)) (hb : b ≠ .bool want) (hd : Nat.blt d N = true) (hc : chainFree d (x :: g) = true)
    (k : vcOps P tb N dr all rest K (x :: g) ⟨(d, .v (.tuple #[])) :: env, F, rs, nx⟩) : vcOps P tb N dr all (⟨some d, op, ty, pos, af, some (j, want)⟩ :: rest) K (x :: g) ⟨env, F, rs, nx⟩ := by
  have hd' : d < N := by simpa using hd
  simp only [vcOps, stepV]
  right
  rw [hs]
  refine ⟨b, h1, h2, .inr ⟨hb, ?_⟩⟩
  simp only [skipV, putV]
  exact ⟨hd', hc, k⟩
theorem bool_ne {want : Bool} : (Value.bool (!want)) ≠ .bool want := by cases want <;> simp
theorem s_unwanted {d j s : Nat} {want : Bool} {op : Op} {ty : TypeId} {pos : String} {af : Array Edge} {env : Env} {F : Hp} {rs : RL} {nx : Nat} (hs : dstOf all[j]? = some s) (h2 : lk env s = some (.v (.bool (!want)))) (hd : Nat.blt d N = true)
    (k : vcOps P tb N dr all rest K [] ⟨(d, .v (.tuple #[])) :: env, F, rs, nx⟩) : vcOps P tb N dr all (⟨some d, op, ty, pos, af, some (j, want)⟩ :: rest) K [] ⟨env, F, rs, nx⟩ := s_unwanted0 hs h2 bool_ne hd k
theorem s_unwantedG {d j s : Nat} {want : Bool} {op : Op} {ty : TypeId} {pos : String} {af : Array Edge} {env : Env} {F : Hp} {rs : RL} {nx : Nat} {x : Nat × Chain × EV} (hs : dstOf all[j]? = some s) (h1 : lkG (x :: g) s = none) (h2 : lk env s = some (.v (.bool (!want)))) (hd : Nat.blt d N = true) (hc : chainFree d (x :: g) = true)
    (k : vcOps P tb N dr all rest K (x :: g) ⟨(d, .v (.tuple #[])) :: env, F, rs, nx⟩) : vcOps P tb N dr all (⟨some d, op, ty, pos, af, some (j, want)⟩ :: rest) K (x :: g) ⟨env, F, rs, nx⟩ := s_unwantedG0 hs h1 h2 bool_ne hd hc k
/-- The guard is an operation that was not wanted itself. -/
theorem s_unwantedU {d j s : Nat} {want : Bool} {op : Op} {ty : TypeId} {pos : String} {af : Array Edge} {env : Env} {F : Hp} {rs : RL} {nx : Nat} (hs : dstOf all[j]? = some s) (h2 : lk env s = some (.v (.tuple #[]))) (hd : Nat.blt d N = true)
    (k : vcOps P tb N dr all rest K [] ⟨(d, .v (.tuple #[])) :: env, F, rs, nx⟩) : vcOps P tb N dr all (⟨some d, op, ty, pos, af, some (j, want)⟩ :: rest) K [] ⟨env, F, rs, nx⟩ := s_unwanted0 hs h2 (by simp) hd k
theorem s_unwantedUG {d j s : Nat} {want : Bool} {op : Op} {ty : TypeId} {pos : String} {af : Array Edge} {env : Env} {F : Hp} {rs : RL} {nx : Nat} {x : Nat × Chain × EV} (hs : dstOf all[j]? = some s) (h1 : lkG (x :: g) s = none) (h2 : lk env s = some (.v (.tuple #[]))) (hd : Nat.blt d N = true) (hc : chainFree d (x :: g) = true)
    (k : vcOps P tb N dr all rest K (x :: g) ⟨(d, .v (.tuple #[])) :: env, F, rs, nx⟩) : vcOps P tb N dr all (⟨some d, op, ty, pos, af, some (j, want)⟩ :: rest) K (x :: g) ⟨env, F, rs, nx⟩ := s_unwantedG0 hs h1 h2 (by simp) hd hc k

/-! Loads out of owned blocks. -/
def locE (tb : Tb) (rs : RL) (t : TypeId) (a : Option EV) : Option EV :=
  match tb t, a with
  | some i, some (.loc id off) => (match lkR rs id with
    | some r => (match i.kind.agg with
      | true => (match Nat.ble (off + i.size) r.cells.length with
        | true => (match allV rs ((r.cells.take (off + i.size)).drop off) with
          | some cs => some (.v (.agg cs.toArray))
          | none => none)
        | false => none)
      | false => aliveO rs r.cells[off]?)
    | none => none)
  | _, _ => none
theorem loadGo_loc {F : Hp} {rs : RL} {ch : Chain} {K : EV → Prop} {t : TypeId} {a : Option EV} {e : EV} (h : locE tb rs t a = some e) : loadGo F rs ch K (tb t) a = K e := by
  unfold locE at h
  split at h
  · rename_i i id off ht
    simp only [ht, loadGo]
    split at h
    · rename_i r hr
      simp only [hr]
      split at h
      · rename_i ha
        simp only [ha, loadL]
        split at h
        · rename_i hb
          have hb' : off + i.size ≤ r.cells.length := by simpa using hb
          split at h
          · rename_i cs hcs
            simp only [hcs, optL]
            simp only [Option.some.injEq] at h
            subst h
            simp [hb']
          · simp at h
        · simp at h
      · rename_i ha
        simp only [ha, loadL, h, optV]
    · simp at h
  · simp at h
theorem s_loc {d : Nat} {t : TypeId} {a : Operand} {ty : TypeId} {pos : String} {af : Array Edge} {env : Env} {F : Hp} {rs : RL} {nx : Nat} {e : EV} (h : locE tb rs t (opd rs [] env [] a) = some e) (hd : Nat.blt d N = true)
    (k : vcOps P tb N dr all rest K [] ⟨(d, e) :: env, F, rs, nx⟩) : vcOps P tb N dr all (⟨some d, .load t a, ty, pos, af, none⟩ :: rest) K [] ⟨env, F, rs, nx⟩ := by
  have hd' : d < N := by simpa using hd
  refine .inl ?_
  simp only [opV, loadGo_loc h, putK, putV]
  exact ⟨hd', k⟩
theorem s_locG {d : Nat} {t : TypeId} {a : Operand} {ty : TypeId} {pos : String} {af : Array Edge} {env : Env} {F : Hp} {rs : RL} {nx : Nat} {x : Nat × Chain × EV} {e : EV} (h : locE tb rs t (opd rs (x :: g) env [] a) = some e) (hd : Nat.blt d N = true) (hc : chainFree d (x :: g) = true)
    (k : vcOps P tb N dr all rest K (x :: g) ⟨(d, e) :: env, F, rs, nx⟩) : vcOps P tb N dr all (⟨some d, .load t a, ty, pos, af, none⟩ :: rest) K (x :: g) ⟨env, F, rs, nx⟩ := by
  have hd' : d < N := by simpa using hd
  refine .inl ?_
  simp only [opV, loadGo_loc h, putK, putV]
  exact ⟨hd', hc, k⟩
theorem s_gloc {d j : Nat} {want : Bool} {t : TypeId} {a : Operand} {ty : TypeId} {pos : String} {af : Array Edge} {env : Env} {F : Hp} {rs : RL} {nx : Nat} {e : EV} {c : Nat × Bool × Bool} {ch : Chain} (hg : chainOf all g env j want = some (c :: ch))
    (h : locE tb rs t (opd rs g env (c :: ch) a) = some e) (hd : Nat.blt d N = true) (hc : (chainFree d g && envFree d env) = true)
    (k : vcOps P tb N dr all rest K ((d, c :: ch, e) :: g) ⟨env, F, rs, nx⟩) : vcOps P tb N dr all (⟨some d, .load t a, ty, pos, af, some (j, want)⟩ :: rest) K g ⟨env, F, rs, nx⟩ := by
  have hd' : d < N := by simpa using hd
  refine stepV_guard (st := ⟨env, F, rs, nx⟩) hg ?_
  simp only [opV, loadGo_loc h, putK, putV]
  exact ⟨hd', hc, k⟩

/-! New blocks. -/
theorem s_box {d : Nat} {t : TypeId} {x : Operand} {ty : TypeId} {pos : String} {af : Array Edge} {env : Env} {F : Hp} {rs : RL} {nx : Nat} {e : EV} {cells : List EV} {n : Nat} (h : opd rs [] env [] x = some e) (hc' : forceL (cellsOf e) = some cells) (hn : cells.length = n) (hd : Nat.blt d N = true)
    (k : ∀ b, vcOps P tb N false all rest K [] ⟨(d, .loc nx 0) :: env, F, (nx, ⟨some b, cells, t, n⟩) :: rs, nx + 1⟩) : vcOps P tb N false all (⟨some d, .box t x, ty, pos, af, none⟩ :: rest) K [] ⟨env, F, rs, nx⟩ := by
  have hd' : d < N := by simpa using hd
  rw [forceL_eq, Option.some.injEq] at hc'
  subst hc' hn
  refine .inl ?_
  simp only [opV, h, boxGo, newV, putV]
  exact ⟨trivial, trivial, fun b => ⟨hd', k b⟩⟩
theorem s_alloc {d : Nat} {t : TypeId} {ty : TypeId} {pos : String} {af : Array Edge} {env : Env} {F : Hp} {rs : RL} {nx : Nat} {i : TI} {cells : List EV} {n : Nat} (h : tb t = some i) (hc' : forceL (i.zero.map EV.v) = some cells) (hn : cells.length = n) (hd : Nat.blt d N = true)
    (k : ∀ b, vcOps P tb N false all rest K [] ⟨(d, .loc nx 0) :: env, F, (nx, ⟨some b, cells, t, n⟩) :: rs, nx + 1⟩) : vcOps P tb N false all (⟨some d, .alloc t, ty, pos, af, none⟩ :: rest) K [] ⟨env, F, rs, nx⟩ := by
  have hd' : d < N := by simpa using hd
  rw [forceL_eq, Option.some.injEq] at hc'
  subst hc' hn
  refine .inl ?_
  simp only [opV, h, allocGo, newV, putV]
  exact ⟨trivial, trivial, fun b => ⟨hd', k b⟩⟩
def storeE (tb : Tb) (rs : RL) (t : TypeId) (a x : Option EV) : Option RL :=
  match tb t, a, x with
  | some i, some (.loc id off), some e => (match lkR rs id with
    | some r => (match Nat.beq (cellsOf e).length i.size && ((cellsOf e).all one && Nat.ble (off + i.size) r.cells.length) with
      | true => (match forceL (r.cells.take off ++ cellsOf e ++ r.cells.drop (off + i.size)) with
        | some cs => forceL (setR rs id ⟨r.blk, cs, r.ty, r.cap⟩)
        | none => none)
      | false => none)
    | none => none)
  | _, _, _ => none
theorem s_store {t : TypeId} {a x : Operand} {ty : TypeId} {pos : String} {af : Array Edge} {env : Env} {F : Hp} {rs rs' : RL} {nx : Nat} (h : storeE tb rs t (opd rs g env [] a) (opd rs g env [] x) = some rs')
    (k : vcOps P tb N false all rest K g ⟨env, F, rs', nx⟩) : vcOps P tb N false all (⟨none, .store t a x, ty, pos, af, none⟩ :: rest) K g ⟨env, F, rs, nx⟩ := by
  refine .inl ?_
  simp only [opV]
  unfold storeE at h
  split at h
  · rename_i i id off e h1 h2 h3
    split at h
    · rename_i r hr
      split at h
      · rename_i hb
        simp only [Bool.and_eq_true, Nat.beq_eq, Nat.ble_eq] at hb
        simp only [forceL_eq, Option.some.injEq] at h
        subst h
        simp only [h1, h2, h3, storeGo, hr, storeIn]
        exact ⟨trivial, trivial, trivial, hb.1, hb.2.1, hb.2.2, k⟩
      · simp at h
    · simp at h
  · simp at h

/-! Code. -/
theorem s_nil (k : K g st) : vcOps P tb N dr all [] K g st := k
theorem s_drop {K : St → Prop} (k : K st) : dropG K g st := k
theorem VS.id {G : St → Prop} (h : G st) : VS N g st G := fun _ _ _ hs => ⟨st, hs, h⟩
theorem s_region {id : Nat} {l : List Oper} (k : vcOps P tb N false l l (dropG (KK .normal)) [] st) : vc P tb N (.region id l.toArray false) KK st := VS.id (.inl ⟨fun h => (by cases h), k⟩)
theorem s_regiond {id : Nat} {l : List Oper} (h : Region.lexB .any l.toArray = true) (k : vcOps P tb N true l l (dropG (KK .normal)) [] st) : vc P tb N (.region id l.toArray true) KK st := VS.id (.inl ⟨fun _ => h, k⟩)
/-- A region that draws its order but for its last operations, from number n on. -/
theorem s_regiont {id : Nat} {l : List Oper} (n : Nat) {l1 l2 : List Oper} (h : Region.lexTailB .any l.toArray n = true) (h1 : l.take n = l1) (h2 : l.drop n = l2) (k : vcOps P tb N true l l1 (dropG (vcOps P tb N false l l2 (dropG (KK .normal)) [])) [] st) : vc P tb N (.region id l.toArray true) KK st := VS.id (.inr (.inl ⟨n, h, by subst h1 h2; exact k⟩))
/-- At a region's beginning memory may be named anew. -/
theorem s_vs {id : Nat} {ops : Array Oper} {b : Bool} (h : VS N [] st fun st => vc P tb N (.region id ops b) KK st) : vc P tb N (.region id ops b) KK st := fun c a w hs => by
  obtain ⟨st1, h1, h2⟩ := h c a w hs
  exact h2 c a w h1
/-- A region that draws its order, operation by operation. -/
theorem s_regiona {id : Nat} {l : List Oper} (kept : List Nat) (h : Region.noSelect l.toArray = true) (k : vcAny P tb N l.toArray kept (KK .normal) (l.toArray.size + 1) l.toArray.size (Array.replicate l.toArray.size false) [] st) : vc P tb N (.region id l.toArray true) KK st := VS.id (.inr (.inr ⟨rfl, h, kept, k⟩))
theorem s_seq {x y : Code} (k : vc P tb N x (seqK (vc P tb N y KK) KK) st) : vc P tb N (.seq x y) KK st := k
theorem s_block {id : Nat} {x : Code} (k : vc P tb N x (blockK id KK) st) : vc P tb N (.block id x) KK st := k
theorem s_skip (k : KK .normal st) : vc P tb N .skip KK st := k
theorem s_ret (k : KK .ret st) : vc P tb N .ret KK st := k
theorem s_exit {id : Nat} (k : KK (.exit id) st) : vc P tb N (.exit id) KK st := k
theorem s_seqn {G : St → Prop} (k : G st) : seqK G KK .normal st := k
theorem s_seqr {G : St → Prop} (k : KK .ret st) : seqK G KK .ret st := k
theorem s_seqe {G : St → Prop} {id : Nat} (k : KK (.exit id) st) : seqK G KK (.exit id) st := k
theorem s_blockn {id : Nat} (k : KK .normal st) : blockK id KK .normal st := k
theorem s_blockr {id : Nat} (k : KK .ret st) : blockK id KK .ret st := k
theorem s_blocke {id : Nat} (k : KK .normal st) : blockK id KK (.exit id) st := by simp only [blockK, beq_self_eq_true, exitK]; exact k
theorem s_blocko {id j : Nat} (h : (j == id) = false) (k : KK (.exit j) st) : blockK id KK (.exit j) st := by simp only [blockK, h, exitK]; exact k
theorem s_cond {c : Operand} {x y : Code} {b : Bool} (h : opd st.rs [] st.env [] c = some (.v (.bool b))) (k1 : b = true → vc P tb N x KK st) (k2 : b = false → vc P tb N y KK st) : vc P tb N (.cond c x y) KK st := by
  simp only [vc, h]
  cases b with
  | true => exact k1 rfl
  | false => exact k2 rfl
theorem s_condt {c : Operand} {x y : Code} (h : opd st.rs [] st.env [] c = some (.v (.bool true))) (k : vc P tb N x KK st) : vc P tb N (.cond c x y) KK st := by
  simp only [vc, h]; exact k
theorem s_condf {c : Operand} {x y : Code} (h : opd st.rs [] st.env [] c = some (.v (.bool false))) (k : vc P tb N y KK st) : vc P tb N (.cond c x y) KK st := by
  simp only [vc, h]; exact k
theorem s_end {rv : List ResultVar} {Q : Value → Prop} {xs : List Value} (h : resV tb st rv = some xs) (k : Q (tupV xs)) : retK tb rv Q .ret st := by
  simp only [retK, h]; exact k
theorem s_endn {rv : List ResultVar} {Q : Value → Prop} {xs : List Value} (h : resV tb st rv = some xs) (k : Q (tupV xs)) : retK tb rv Q .normal st := by
  simp only [retK, h]; exact k
end

end Go.TR
