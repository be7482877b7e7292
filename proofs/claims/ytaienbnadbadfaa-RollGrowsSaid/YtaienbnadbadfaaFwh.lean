/-
A small program logic of our own for the model. Part h: every operation of the evaluator is sound; lists of operations. Nothing here speaks of one program.
-/
import Derived.Test.YtaienbnadbadfaaFwg
namespace Go.TR
variable {P : Program} {tb : Tb} {N : Nat}

theorem pick_quiet {c : Ctx} {g : GEnv} {st : St} {a : Act} {w : World} (h : GSat c N g st a w) {ch : Chain} {d : Option Nat} {K : GEnv → St → Prop} {o : Oper} {s : Nat} {x y : Operand} (ho : o.op = .pick (.tmp s) x y)
    (hk : pickTo N ch d K g st s x y (opd st.rs g st.env ch (.tmp s)) ∨ pickN N ch d K g st x y (opd st.rs g st.env ch (.tmp s))) : ∃ e v, Quiet P st ch a o e v ∧ putV N ch d e K g st := by
  rcases hk with hk | hk
  case inr =>
    have go : ∀ (t : Bool) (z : Operand) (e : EV), opd st.rs g st.env ch (.tmp s) = some (.v (.bool t)) → (z = if t then x else y) → opd st.rs g st.env ch z = some e → putV N ch d e K g st → ∃ e v, Quiet P st ch a o e v ∧ putV N ch d e K g st := fun t z e ht hz he hput => by
      by_cases hA : gA ch a
      · have e1 := fits_opd h hA _ _ ht
        have e2 := fits_opd h hA _ _ he
        simp only [EV.val, Option.some.injEq] at e1
        refine ⟨e, a.eval z, ⟨?_, fun _ => e2, fun _ CC _ w' _ => quiet_of_run ?_⟩, hput⟩
        · cases z with
          | tmp n =>
            simp only [opd] at he
            split at he
            · obtain ⟨rfl, u, hu⟩ := alive_val he
              exact lt_of_val (fun id r hr => (h.rids id r hr).1) hu
            · simp at he
          | const v => simp only [opd, Option.some.injEq] at he; subst he; trivial
          | global v => simp only [opd, Option.some.injEq] at he; subst he; trivial
          | func v => simp only [opd, Option.some.injEq] at he; subst he; trivial
        · simp only [execOp, ho, run_bind, ← e1, asBool, run_pure]
          subst hz
          cases t <;> rfl
      · refine ⟨e, undef, ⟨?_, fun hA' => absurd hA' hA, fun hA' => absurd hA' hA⟩, hput⟩
        cases z with
        | tmp n =>
          simp only [opd] at he
          split at he
          · obtain ⟨rfl, u, hu⟩ := alive_val he
            exact lt_of_val (fun id r hr => (h.rids id r hr).1) hu
          · simp at he
        | const v => simp only [opd, Option.some.injEq] at he; subst he; trivial
        | global v => simp only [opd, Option.some.injEq] at he; subst he; trivial
        | func v => simp only [opd, Option.some.injEq] at he; subst he; trivial
    unfold pickN at hk
    split at hk
    · rename_i ht
      cases he : opd st.rs g st.env ch x with
      | none => simp [he, pickO] at hk
      | some e => rw [he] at hk; exact go true x e ht rfl he hk
    · rename_i ht
      cases he : opd st.rs g st.env ch y with
      | none => simp [he, pickO] at hk
      | some e => rw [he] at hk; exact go false y e ht rfl he hk
    · exact hk.elim
  unfold pickTo at hk
  split at hk
  · rename_i t ht
    unfold pickGo at hk
    split at hk
    · rename_i u z hu hz
      refine ⟨.v (.bool (bpick t u z)), .bool (bpick t u z), ⟨trivial, fun _ => rfl, fun hA CC _ w' _ => quiet_of_run ?_⟩, hk⟩
      have e1 := fits_opd h hA _ _ ht
      simp only [EV.val, Option.some.injEq] at e1
      simp only [execOp, ho, run_bind, ← e1, asBool, run_pure]
      have hsl : a.tmps.getD s undef = .bool t := by simpa [Act.eval] using e1.symm
      cases t with
      | true =>
        have hA' : gA (ch ++ [(s, true, true)]) a := fun s' w' b' hm => by
          rcases List.mem_append.1 hm with hm | hm
          · exact hA s' w' b' hm
          · simp only [List.mem_singleton, Prod.mk.injEq] at hm
            obtain ⟨rfl, rfl, rfl⟩ := hm
            exact hsl
        have e2 := fits_opd h hA' _ _ hu
        simp only [EV.val, Option.some.injEq] at e2
        simp only [bpick, if_true, ← e2]
      | false =>
        have hA' : gA (ch ++ [(s, false, false)]) a := fun s' w' b' hm => by
          rcases List.mem_append.1 hm with hm | hm
          · exact hA s' w' b' hm
          · simp only [List.mem_singleton, Prod.mk.injEq] at hm
            obtain ⟨rfl, rfl, rfl⟩ := hm
            exact hsl
        have e2 := fits_opd h hA' _ _ hz
        simp only [EV.val, Option.some.injEq] at e2
        simp only [bpick, Bool.false_eq_true, if_false, ← e2]
    · exact hk.elim
  · exact hk.elim

theorem evs_one {ρ : Operand → Option EV} {args : List Operand} {e : EV} (h : evs ρ args = some [e]) : ∃ o, ρ o = some e := by
  cases args with
  | nil => simp [evs] at h
  | cons o t =>
    simp only [evs] at h
    split at h
    · rename_i e1 es h1 h2
      simp only [Option.some.injEq, List.cons.injEq] at h
      exact ⟨o, by rw [h1, h.1]⟩
    · cases h
theorem pv_lt {rs : RL} {ρ : Operand → Option EV} {nx : Nat} (hρ : ∀ o e, ρ o = some e → e.lt nx) {op : Op} {ob : Prop} {e : EV} (h : pv tb rs ρ op = some (ob, e)) : e.lt nx := by
  have bi : ∀ {op k a b ob e}, binInt op k a b = some (ob, e) → e.lt nx := by
    intro op k a b ob e h
    cases op <;> simp only [binInt, ret1, Option.some.injEq, Prod.mk.injEq, reduceCtorEq] at h <;> (obtain ⟨_, rfl⟩ := h; trivial)
  have bs : ∀ {op a b ob e}, binStr op a b = some (ob, e) → e.lt nx := by
    intro op a b ob e h
    cases op <;> simp only [binStr, ret1, Option.some.injEq, Prod.mk.injEq, reduceCtorEq] at h <;> (obtain ⟨_, rfl⟩ := h; trivial)
  unfold pv at h
  split at h
  · split at h
    · rename_i x ev hx; simp only [Option.some.injEq, Prod.mk.injEq] at h; obtain ⟨_, rfl⟩ := h; exact hρ _ _ hx
    · simp at h
  · split at h
    · rename_i x ev hx; simp only [Option.some.injEq, Prod.mk.injEq] at h; obtain ⟨_, rfl⟩ := h; exact hρ _ _ hx
    · simp at h
  · split at h
    · unfold binV at h
      repeat' (first | (simp only [ret1, Option.some.injEq, Prod.mk.injEq] at h; obtain ⟨_, rfl⟩ := h; trivial) | exact bi h | exact bs h | (simp at h; done) | split at h)
    · simp at h
  · split at h
    · unfold unV at h
      repeat' (first | (simp only [ret1, Option.some.injEq, Prod.mk.injEq] at h; obtain ⟨_, rfl⟩ := h; trivial) | (simp at h; done) | split at h)
    · simp at h
  · split at h
    · unfold convV at h
      repeat' (first | (simp only [ret1, Option.some.injEq, Prod.mk.injEq] at h; obtain ⟨_, rfl⟩ := h; trivial) | (simp at h; done) | split at h)
    · simp at h
  · split at h
    · unfold fieldV at h
      repeat' (first | (simp only [ret1, Option.some.injEq, Prod.mk.injEq] at h; obtain ⟨_, rfl⟩ := h; trivial) | (simp at h; done) | split at h)
    · simp at h
  · split at h
    · unfold extractV at h
      repeat' (first | (simp only [ret1, Option.some.injEq, Prod.mk.injEq] at h; obtain ⟨_, rfl⟩ := h; trivial) | (simp at h; done) | split at h)
    · simp at h
  · split at h
    · rename_i x ev hx
      have hl := hρ _ _ hx
      unfold fieldAddrV at h
      repeat' (first | (simp only [Option.some.injEq, Prod.mk.injEq] at h; obtain ⟨_, rfl⟩ := h; first | trivial | exact hl) | (simp at h; done) | split at h)
    · simp at h
  · split at h
    · rename_i x ev k n hx hi
      have hl := hρ _ _ hx
      unfold indexAddrV at h
      repeat' (first | (simp only [Option.some.injEq, Prod.mk.injEq] at h; obtain ⟨_, rfl⟩ := h; first | trivial | exact hl) | (simp at h; done) | split at h)
    · simp at h
  · split at h
    · unfold indexV at h
      repeat' (first | (simp only [Option.some.injEq, Prod.mk.injEq] at h; obtain ⟨_, rfl⟩ := h; trivial) | (simp at h; done) | split at h)
    · simp at h
  · unfold sliceGo at h
    split at h
    · unfold sliceV at h
      repeat' (first | (simp only [ret1, Option.some.injEq, Prod.mk.injEq] at h; obtain ⟨_, rfl⟩ := h; trivial) | (simp at h; done) | split at h)
    · rename_i hx _ _
      have hl := hρ _ _ hx
      unfold sliceR at h
      repeat' (first | (simp only [Option.some.injEq, Prod.mk.injEq] at h; obtain ⟨_, rfl⟩ := h; exact hl) | (simp at h; done) | split at h)
    · rename_i hx _ _
      have hl := hρ _ _ hx
      unfold sliceA at h
      repeat' (first | (simp only [Option.some.injEq, Prod.mk.injEq] at h; obtain ⟨_, rfl⟩ := h; exact hl) | (simp at h; done) | split at h)
    · simp at h
  · unfold sliceGo3 at h
    split at h
    · unfold sliceV3 at h
      repeat' (first | (simp only [Option.some.injEq, Prod.mk.injEq] at h; obtain ⟨_, rfl⟩ := h; trivial) | (simp at h; done) | split at h)
    · simp at h
  · split at h
    · unfold buildV at h
      repeat' (first | (simp only [ret1, Option.some.injEq, Prod.mk.injEq] at h; obtain ⟨_, rfl⟩ := h; trivial) | (simp at h; done) | split at h)
    · simp at h
  · repeat' (first | (simp only [ret1, Option.some.injEq, Prod.mk.injEq] at h; obtain ⟨_, rfl⟩ := h; trivial) | (simp at h; done) | split at h)
  · split at h
    · simp only [Option.some.injEq, Prod.mk.injEq] at h; obtain ⟨_, rfl⟩ := h; trivial
    · rename_i id o hx
      have hl := hρ _ _ hx
      simp only [Option.some.injEq, Prod.mk.injEq] at h; obtain ⟨_, rfl⟩ := h; exact hl
    · simp at h
  · unfold builtV at h
    split at h
    · simp only [Option.some.injEq, Prod.mk.injEq] at h; obtain ⟨_, rfl⟩ := h; trivial
    · rename_i id off n c he
      simp only [Option.some.injEq, Prod.mk.injEq] at h
      obtain ⟨_, rfl⟩ := h
      obtain ⟨o, ho⟩ := evs_one he
      have hl := hρ _ _ ho
      exact hl
    all_goals
      (try unfold lenV at h)
      (try unfold capV at h)
      (try unfold minV at h)
      (try unfold maxV at h)
      repeat' (first | (simp only [ret1, Option.some.injEq, Prod.mk.injEq] at h; obtain ⟨_, rfl⟩ := h; trivial) | (simp at h; done) | split at h)
  · simp at h
theorem opd_lt {c : Ctx} {g : GEnv} {st : St} {a : Act} {w : World} (h : GSat c N g st a w) (ch : Chain) : ∀ o e, opd st.rs g st.env ch o = some e → e.lt st.nx := by
  intro o e he
  cases o with
  | tmp n =>
    simp only [opd] at he
    split at he
    · obtain ⟨rfl, x, hx⟩ := alive_val he
      exact lt_of_val (fun id r hr => (h.rids id r hr).1) hx
    · simp at he
  | const v => simp only [opd, Option.some.injEq] at he; subst he; trivial
  | global v => simp only [opd, Option.some.injEq] at he; subst he; trivial
  | func v => simp only [opd, Option.some.injEq] at he; subst he; trivial
theorem pure_quiet (htb : TbOK P tb) {c : Ctx} {g : GEnv} {st : St} {a : Act} {w : World} (h : GSat c N g st a w) {ch : Chain} (hgp : gA ch a → gP ch) {d : Option Nat} {K : GEnv → St → Prop} {o : Oper}
    (hk : putO N (pv tb st.rs (opd st.rs g st.env ch) o.op) ch d K g st) : ∃ e v, Quiet P st ch a o e v ∧ putV N ch d e K g st := by
  cases hpv : pv tb st.rs (opd st.rs g st.env ch) o.op with
  | none => simp [hpv, putO] at hk
  | some p =>
    obtain ⟨ob, e⟩ := p
    simp only [hpv, putO] at hk
    obtain ⟨h1, h2⟩ := hk
    have hlt := pv_lt (opd_lt h ch) hpv
    by_cases hA : gA ch a
    · obtain ⟨v, hv, hr⟩ := pv_ok htb (fits_opd h hA) hpv (imp_gP h1 (hgp hA))
      exact ⟨e, v, ⟨hlt, fun _ => hv, fun _ CC _ w' _ => quiet_of_run (hr w')⟩, h2⟩
    · exact ⟨e, undef, ⟨hlt, fun hA' => absurd hA' hA, fun hA' => absurd hA' hA⟩, h2⟩

/-- How a call of a Go function with a text is carried out. -/
theorem run_call {a : Act} {o : Oper} {f : Operand} {args : Array Operand} {ts : Array TypeId} {n : FuncId} {first captured : Array Value} (ho : o.op = .call ⟨.value f, args, ts⟩) (hf : a.eval f = .func (.func n) first captured) (hb : bodied P n) (w : World) :
    (execOp a.eval o).run P w = .ok (.enter n (first ++ args.map a.eval ++ captured)) w := by
  obtain ⟨fn, h1, h2, h3⟩ := hb
  simp only [execOp, ho, resolve, run_bind, hf, Deferred.ofValue, run_pure, invoke, callFunc]
  have hp : (program : Sem Program).run P w = .ok P w := rfl
  simp only [hp, h1, h3, h2, Bool.false_eq_true, if_false, run_pure]
theorem call_quiet {c : Ctx} {g : GEnv} {st : St} {a : Act} {w : World} (h : GSat c N g st a w) {ch : Chain} (hgp : gA ch a → gP ch) {d : Option Nat} {K : GEnv → St → Prop} {o : Oper} {f : Operand} {args : Array Operand} {ts : Array TypeId} (ho : o.op = .call ⟨.value f, args, ts⟩)
    {n : FuncId} {first captured : Array Value} {xs : List Value} (hf : opd st.rs g st.env ch f = some (.v (.func (.func n) first captured))) (hx : vals st.rs (opd st.rs g st.env ch) args.toList = some xs) (hb : bodied P n)
    (hk : callPlain P N ch n (first.toList ++ xs ++ captured.toList) d K g st) : ∃ e v, Quiet P st ch a o e v ∧ putV N ch d e K g st := by
  obtain ⟨x, h1, h2⟩ := hk
  refine ⟨.v x, x, ⟨trivial, fun _ => rfl, fun hA CC hC w' hw' => ?_⟩, h2⟩
  have hF := fits_opd h hA
  have e1 := hF _ _ hf
  simp only [EV.val, Option.some.injEq] at e1
  have e2 := vals_ok hF hx
  unfold Oper.quietAt
  rw [run_call ho e1.symm hb]
  refine ⟨rfl, ?_⟩
  have e3 : first ++ args.map a.eval ++ captured = (first.toList ++ xs ++ captured.toList).toArray := by
    apply Array.ext'
    simp [← e2]
  rw [e3]
  exact (imp_gP h1 (hgp hA) w' (hC.rd _ hw').1).mono fun e w'' ⟨he, hp⟩ => ⟨he, hC.pres _ _ hw' hp⟩

/-! ### Guards -/
theorem gA_snoc {ch : Chain} {s : Nat} {w b : Bool} {a : Act} : gA (ch ++ [(s, w, b)]) a ↔ gA ch a ∧ a.tmps.getD s undef = .bool w := by
  constructor
  · intro h
    exact ⟨fun s' w' b' hm => h s' w' b' (List.mem_append_left _ hm), h s w b (by simp)⟩
  · rintro ⟨h1, h2⟩ s' w' b' hm
    rcases List.mem_append.1 hm with hm | hm
    · exact h1 s' w' b' hm
    · simp only [List.mem_singleton, Prod.mk.injEq] at hm
      obtain ⟨rfl, rfl, rfl⟩ := hm
      exact h2
theorem gP_snoc : ∀ {ch : Chain} {s : Nat} {w b : Bool}, gP ch → b = w → gP (ch ++ [(s, w, b)])
  | [], _, _, _, _, h => ⟨h, trivial⟩
  | (_, _, _) :: _, _, _, _, h, e => ⟨h.1, gP_snoc h.2 e⟩
theorem wanted_iff {ops : Array Oper} {o : Oper} {j s : Nat} {want : Bool} {oj : Oper} {tmps : Array Value} (hg : o.guard = some (j, want)) (hj : ops[j]? = some oj) (hs : oj.dst = some s) : Region.wanted o (yielded ops tmps) = true ↔ tmps.getD s undef = .bool want := by
  simp only [Region.wanted, hg, yielded, hj, Option.bind_some, hs]
  rw [Array.getD_eq_getD_getElem?]
  cases h : tmps[s]? with
  | none => simp [undef]
  | some v =>
    cases v <;> simp
/-- What an operation's guard comes to. -/
structure Guarded (g : GEnv) (st : St) (ops : Array Oper) (a : Act) (o : Oper) (ch : Chain) : Prop where
  wanted : Region.wanted o (yielded ops a.tmps) = true ↔ gA ch a
  gp : gA ch a → gP ch
  free : ChFree g st.env ch
theorem guarded_none {g : GEnv} {st : St} {ops : Array Oper} {a : Act} {o : Oper} (h : o.guard = none) : Guarded g st ops a o [] where
  wanted := by
    simp only [Region.wanted, h]
    exact ⟨fun _ s w b hs => by simp at hs, fun _ => trivial⟩
  gp := fun _ => trivial
  free := fun d _ _ _ s w b hs => by simp at hs
theorem guarded_some {c : Ctx} {g : GEnv} {st : St} {a : Act} {w : World} (h : GSat c N g st a w) {ops : Array Oper} {o : Oper} {j : Nat} {want : Bool} (hg : o.guard = some (j, want)) {dr : Bool} {op : Op} {d : Option Nat} {K : GEnv → St → Prop}
    (hk : guardS P tb N dr want op d K g st (dstOf ops.toList[j]?)) : ∃ ch, Guarded g st ops a o ch ∧ opV P tb N dr ch d K g st op ∧ ch ≠ [] := by
  cases hj : ops[j]? with
  | none => simp [hj, dstOf, guardS] at hk
  | some oj =>
    have hj' : ops.toList[j]? = some oj := by simpa using hj
    cases hs : oj.dst with
    | none => simp [hj', dstOf, hs, guardS] at hk
    | some s =>
      simp only [hj', dstOf, hs, guardS] at hk
      cases hl : lkG g s with
      | some cv =>
        obtain ⟨cc, ev⟩ := cv
        rw [hl] at hk
        obtain ⟨g1, g2, g3, g4⟩ := h.gv s cc ev hl
        have key : ∀ b, ev = .v (.bool b) → Guarded g st ops a o (cc ++ [(s, want, b)]) := fun b hev => by
          subst hev
          refine ⟨?_, ?_, ?_⟩
          · rw [wanted_iff hg hj hs, gA_snoc]
            refine ⟨fun e => ⟨?_, e⟩, fun e => e.2⟩
            by_cases hA : gA cc a
            · exact hA
            · rw [g2 hA] at e; simp [undef] at e
          · intro hA
            obtain ⟨h1, h2⟩ := gA_snoc.1 hA
            obtain ⟨h3, h4⟩ := g1 h1
            have h5 := h3 _ rfl
            rw [h2] at h5
            simp only [Value.bool.injEq] at h5
            exact gP_snoc h4 h5.symm
          · intro d hd1 hd2 hd3 s' w' b' hm
            rcases List.mem_append.1 hm with hm | hm
            · exact hd3 s cc _ hl s' w' b' hm
            · simp only [List.mem_singleton, Prod.mk.injEq] at hm
              obtain ⟨rfl, rfl, rfl⟩ := hm
              rintro rfl
              rw [hd1] at hl; cases hl
        cases ev with
        | v x =>
          cases x with
          | bool b => exact ⟨_, key b rfl, by simpa only [guardG] using hk, by simp⟩
          | _ => simp [guardG] at hk
        | _ => simp [guardG] at hk
      | none =>
        rw [hl] at hk
        simp only [guardG] at hk
        cases he : lk st.env s with
        | none => simp [he, guardE] at hk
        | some ev =>
          rw [he] at hk
          have key : ∀ b, ev = .v (.bool b) → Guarded g st ops a o [(s, want, b)] := fun b hev => by
            subst hev
            have h5 := h.env s _ _ hl he rfl
            have hsn : gA [(s, want, b)] a ↔ a.tmps.getD s undef = .bool want := by
              have := gA_snoc (ch := []) (s := s) (w := want) (b := b) (a := a)
              simp only [List.nil_append] at this
              rw [this]
              exact ⟨fun e => e.2, fun e => ⟨fun s w b hs => by simp at hs, e⟩⟩
            refine ⟨?_, ?_, ?_⟩
            · rw [wanted_iff hg hj hs, hsn]
            · intro hA
              have h2 := hsn.1 hA
              rw [h5] at h2
              simp only [Value.bool.injEq] at h2
              exact ⟨h2, trivial⟩
            · intro d hd1 hd2 hd3 s' w' b' hm
              simp only [List.mem_singleton, Prod.mk.injEq] at hm
              obtain ⟨rfl, rfl, rfl⟩ := hm
              rintro rfl
              rw [hd2] at he; cases he
          cases ev with
          | v x =>
            cases x with
            | bool b => exact ⟨_, key b rfl, by simpa only [guardE] using hk, by simp⟩
            | _ => simp [guardE] at hk
          | _ => simp [guardE] at hk

/-- A guard whose answer is known. -/
theorem guarded_known {c : Ctx} {g : GEnv} {st : St} {a : Act} {w : World} (h : GSat c N g st a w) {ops : Array Oper} {o : Oper} {j : Nat} {want : Bool} (hg : o.guard = some (j, want)) {dr : Bool} {op : Op} {d : Option Nat} {K : GEnv → St → Prop}
    (hk : guardK P tb N dr want op d K g st (dstOf ops.toList[j]?)) : (Region.wanted o (yielded ops a.tmps) = true ∧ opX P tb N dr d K g st op) ∨ (¬ Region.wanted o (yielded ops a.tmps) = true ∧ skipV N d K g st) := by
  cases hj : ops[j]? with
  | none => simp [hj, dstOf, guardK] at hk
  | some oj =>
    have hj' : ops.toList[j]? = some oj := by simpa using hj
    cases hs : oj.dst with
    | none => simp [hj', dstOf, hs, guardK] at hk
    | some s =>
      simp only [hj', dstOf, hs, guardK] at hk
      obtain ⟨b, h1, h2, h3⟩ := hk
      have h5 := h.env s _ _ h1 h2 rfl
      have hw := wanted_iff (tmps := a.tmps) hg hj hs
      rw [h5] at hw
      rcases h3 with ⟨rfl, h3⟩ | ⟨hne, h3⟩
      · exact .inl ⟨hw.2 rfl, h3⟩
      · exact .inr ⟨fun e => hne (hw.1 e), h3⟩
/-- An operation that is not wanted leaves a slot without a value. -/
theorem skip_sat {c : Ctx} {g : GEnv} {st : St} {a : Act} {w : World} (h : GSat c N g st a w) {d : Option Nat} {K : GEnv → St → Prop} (hk : skipV N d K g st) : ∃ g' st', K g' st' ∧ st'.F = st.F ∧ st'.rs = st.rs ∧ st'.nx = st.nx ∧ GSat c N g' st' (a.put d undef) w := by
  cases d with
  | none => exact ⟨g, st, hk, rfl, rfl, rfl, h⟩
  | some d =>
    have hA : gA [] a := fun s w b hs => by simp at hs
    obtain ⟨g', st', hK, hF, hrs, hnx, h1, _⟩ := putV_sat h (ch := []) (d := some d) (e := .v undef) (v := undef) trivial (fun _ => rfl) (fun _ => trivial) (fun d _ _ _ s w b hs => by simp at hs) hk
    exact ⟨g', st', hK, hF, hrs, hnx, h1 hA⟩

/-! ### One quiet operation, guarded or not -/
theorem quiet_op (htb : TbOK P tb) {c : Ctx} {g : GEnv} {st : St} {a : Act} {w : World} (h : GSat c N g st a w) {ch : Chain} (hgp : gA ch a → gP ch) {d : Option Nat} {K : GEnv → St → Prop} {o : Oper} (hk : opV P tb N true ch d K g st o.op) :
    ∃ e v, Quiet P st ch a o e v ∧ putV N ch d e K g st := by
  cases ho : o.op with
  | pick x y z =>
    rw [ho] at hk
    cases x with
    | tmp s => exact pick_quiet h ho hk
    | _ => exact hk.elim
  | load t x =>
    rw [ho] at hk
    obtain ⟨e, v, h1, h2⟩ := load_quiet htb h hgp ho hk
    exact ⟨e, v, h1, h2⟩
  | call cc =>
    rw [ho] at hk
    obtain ⟨callee, args, ts⟩ := cc
    cases callee with
    | value f =>
      simp only [opV] at hk
      cases hf : opd st.rs g st.env ch f with
      | none => simp [hf, callGo] at hk
      | some ef =>
        cases hx : vals st.rs (opd st.rs g st.env ch) args.toList with
        | none => rw [hf, hx] at hk; cases ef with
          | v x => cases x with
            | func fn p q => cases fn <;> simp [callGo] at hk
            | _ => simp [callGo] at hk
          | _ => simp [callGo] at hk
        | some xs =>
          rw [hf, hx] at hk
          cases ef with
          | v x =>
            cases x with
            | func fn p q =>
              cases fn with
              | func n =>
                simp only [callGo, callV] at hk
                exact call_quiet h hgp ho hf hx hk.1 hk.2
              | _ => simp [callGo] at hk
            | _ => simp [callGo] at hk
          | _ => simp [callGo] at hk
    | builtin b => exact pure_quiet htb h hgp (by rw [ho]; exact hk)
    | invoke r m => exact hk.elim
  | alloc t => rw [ho] at hk; simp [opV] at hk
  | box t x => rw [ho] at hk; simp [opV] at hk
  | store t x y => rw [ho] at hk; simp [opV] at hk
  | buildSlice t n ps => rw [ho] at hk; simp [opV] at hk
  | move x => exact pure_quiet htb h hgp (by rw [ho] at hk ⊢; exact hk)
  | assign x => exact pure_quiet htb h hgp (by rw [ho] at hk ⊢; exact hk)
  | build _ _ => exact pure_quiet htb h hgp (by rw [ho] at hk ⊢; exact hk)
  | nilCheck _ => exact pure_quiet htb h hgp (by rw [ho] at hk ⊢; exact hk)
  | binOp _ _ _ _ _ => exact pure_quiet htb h hgp (by rw [ho] at hk ⊢; exact hk)
  | unOp _ _ _ => exact pure_quiet htb h hgp (by rw [ho] at hk ⊢; exact hk)
  | convert _ _ _ => exact pure_quiet htb h hgp (by rw [ho] at hk ⊢; exact hk)
  | makeFunc _ _ _ => exact pure_quiet htb h hgp (by rw [ho] at hk ⊢; exact hk)
  | slice _ _ _ _ _ => exact pure_quiet htb h hgp (by rw [ho] at hk ⊢; exact hk)
  | fieldAddr _ _ _ => exact pure_quiet htb h hgp (by rw [ho] at hk ⊢; exact hk)
  | field _ _ _ => exact pure_quiet htb h hgp (by rw [ho] at hk ⊢; exact hk)
  | indexAddr _ _ _ => exact pure_quiet htb h hgp (by rw [ho] at hk ⊢; exact hk)
  | index _ _ _ => exact pure_quiet htb h hgp (by rw [ho] at hk ⊢; exact hk)
  | extract _ _ => exact pure_quiet htb h hgp (by rw [ho] at hk ⊢; exact hk)
  | _ => rw [ho] at hk; exact hk.elim
/-- One quiet operation of a region, guarded or not: what it gives wherever CC holds, and the state behind it. -/
theorem quiet_step (htb : TbOK P tb) {c : Ctx} {g : GEnv} {st : St} {a : Act} {w : World} (h : GSat c N g st a w) {ops : Array Oper} {o : Oper} {K : GEnv → St → Prop} (hk : stepV P tb N true ops.toList o.op o.dst K g st o.guard) :
    ∃ v g2 st2, K g2 st2 ∧ st2.F = st.F ∧ st2.rs = st.rs ∧ st2.nx = st.nx ∧ (Region.wanted o (yielded ops a.tmps) = true → (∀ CC : World → Prop, Rd st CC → ∀ w', CC w' → o.quietAt P a CC w' v) ∧ GSat c N g2 st2 (a.put o.dst v) w) ∧ (¬ Region.wanted o (yielded ops a.tmps) = true → GSat c N g2 st2 (a.put o.dst undef) w) := by
  have go : ∀ ch, Guarded g st ops a o ch → opV P tb N true ch o.dst K g st o.op → ∃ v g2 st2, K g2 st2 ∧ st2.F = st.F ∧ st2.rs = st.rs ∧ st2.nx = st.nx ∧ (Region.wanted o (yielded ops a.tmps) = true → (∀ CC : World → Prop, Rd st CC → ∀ w', CC w' → o.quietAt P a CC w' v) ∧ GSat c N g2 st2 (a.put o.dst v) w) ∧ (¬ Region.wanted o (yielded ops a.tmps) = true → GSat c N g2 st2 (a.put o.dst undef) w) := fun ch hG hop => by
    obtain ⟨e, v, hq, hp⟩ := quiet_op htb h hG.gp hop
    obtain ⟨g', st', hK, hF, hrs, hnx, h1, h2⟩ := putV_sat h hq.lt hq.val hG.gp hG.free hp
    exact ⟨v, g', st', hK, hF, hrs, hnx, fun hw => ⟨hq.run (hG.wanted.1 hw), h1 (hG.wanted.1 hw)⟩, fun hw => h2 (fun hA => hw (hG.wanted.2 hA))⟩
  cases hg : o.guard with
  | none =>
    rw [hg] at hk
    rcases hk with hk | ⟨hk, _⟩ | ⟨hk, _⟩
    · exact go [] (guarded_none hg) hk
    · cases hk
    · cases hk
  | some jw =>
    obtain ⟨j, want⟩ := jw
    rw [hg] at hk
    rcases hk with hk | hk
    · obtain ⟨ch, h1, h2, _⟩ := guarded_some h hg hk
      exact go ch h1 h2
    · rcases guarded_known h hg hk with ⟨hw, hk | ⟨hk, _⟩ | ⟨hk, _⟩⟩ | ⟨hw, hk⟩
      · obtain ⟨e, v, hq, hp⟩ := quiet_op htb h (ch := []) (fun _ => trivial) hk
        have hA : gA [] a := fun s w b hs => by simp at hs
        obtain ⟨g', st', hK, hF, hrs, hnx, h1, _⟩ := putV_sat h (ch := []) hq.lt hq.val (fun _ => trivial) (fun d _ _ _ s w b hs => by simp at hs) hp
        exact ⟨v, g', st', hK, hF, hrs, hnx, fun _ => ⟨hq.run hA, h1 hA⟩, fun hn => absurd hw hn⟩
      · cases hk
      · cases hk
      · obtain ⟨g', st', h1, hF, hrs, hnx, h2⟩ := skip_sat h hk
        exact ⟨undef, g', st', h1, hF, hrs, hnx, fun hn => absurd hn hw, fun _ => h2⟩
end Go.TR
