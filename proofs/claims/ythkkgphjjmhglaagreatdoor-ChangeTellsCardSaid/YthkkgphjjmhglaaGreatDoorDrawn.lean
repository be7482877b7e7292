/-
The tape is read forward only: no step of the machine takes back what it has drawn. Nothing here speaks of one program.
-/
import Derived.Lone
import Derived.Calls
import Derived.RunT
namespace Go.TR
set_option linter.unusedVariables false
set_option linter.unusedSimpArgs false
def Rw {α : Type} : Result α → World
  | .ok _ w => w
  | .halt _ w => w
theorem freeze_drawn (w : World) (a : Addr) (n : Nat) : (w.freeze a n).drawn = w.drawn := by unfold World.freeze; split <;> rfl
theorem ask_drawn {α : Type} (x : Ask α) : ∀ w : World, w.drawn ≤ (w.ask x).2.drawn := by
  induction x with
  | done a => intro w; exact Nat.le_refl _
  | ask what range k ih =>
    intro w
    unfold World.ask
    simp only []
    split
    · exact ih _ w
    · exact Nat.le_trans (Nat.le_succ _) (ih _ { w with drawn := w.drawn + 1 })
theorem sys_drawn (w : World) (c : Sys) : w.drawn ≤ (w.sys c).2.drawn := by
  unfold World.sys
  have h := ask_drawn (Kernel.perform c w.os) w
  split
  · exact Nat.le_refl _
  · rename_i e
    rw [e] at h
    exact h
theorem farStore_drawn (p : Program) (w : World) (a : Addr) (v : Value) (b : Bool) (x : World × List Addr) (h : w.farStore p a v b = .ok x) : x.1.drawn = w.drawn := by
  unfold World.farStore at h
  split at h
  · split at h
    · rename_i r hv
      cases h
      unfold World.viewStore at hv
      simp only [bind, Except.bind, pure, Except.pure] at hv
      repeat' first
        | (cases hv; done)
        | (cases hv; rfl)
        | split at hv
    · cases h
  · cases h
theorem run_drawn {α : Type} (p : Program) (s : Sem α) : ∀ w : World, w.drawn ≤ (Rw (s.run p w)).drawn := by
  induction s with
  | pure a => intro w; exact Nat.le_refl _
  | halt h => intro w; exact Nat.le_refl _
  | load m a k ih =>
    intro w
    simp only [Sem.run]
    split
    · exact ih _ w
    · split
      · exact ih _ w
      · exact Nat.le_refl _
  | store m a v k ih =>
    intro w
    have main : ∀ v', w.drawn ≤ (Rw (match w.cell? a with
        | some _ => if w.frozen? a then .halt (.unsupported (.unsafePointer "a write to bytes that a string shares")) w else k.run p (w.setCell a v')
        | none => match w.farStore p a v' (m == .atomic) with
          | .ok (w, _) => k.run p w
          | .error h => .halt h w)).drawn := by
      intro v'
      split
      · split
        · exact Nat.le_refl _
        · exact ih (w.setCell a v')
      · split
        · rename_i w' _ hf
          have := farStore_drawn _ _ _ _ _ _ hf
          exact Nat.le_trans (Nat.le_of_eq this.symm) (ih w')
        · exact Nat.le_refl _
    cases v <;> first
      | exact Nat.le_refl _
      | exact main _
  | new o k ih => intro w; simp only [Sem.run]; exact ih _ { w with heap := w.heap.push o }
  | shape r k ih => intro w; simp only [Sem.run]; exact ih _ _
  | freeze a n k ih => intro w; simp only [Sem.run]; exact Nat.le_trans (Nat.le_of_eq (freeze_drawn w a n).symm) (ih _)
  | frozen a k ih => intro w; simp only [Sem.run]; exact ih _ _
  | getObj r k ih =>
    intro w; simp only [Sem.run]
    split
    · exact Nat.le_refl _
    · exact ih _ _
    · exact Nat.le_refl _
  | setObj r o k ih =>
    intro w; simp only [Sem.run]
    split
    · exact Nat.le_refl _
    · exact ih { w with heap := w.heap.setIfInBounds r o }
    · exact Nat.le_refl _
  | choose q k ih =>
    intro w; simp only [Sem.run]
    split
    · exact ih _ w
    · exact Nat.le_trans (Nat.le_succ _) (ih _ { w with drawn := w.drawn + 1 })
  | sys c k ih => intro w; simp only [Sem.run]; exact Nat.le_trans (sys_drawn w c) (ih _ _)
  | program k ih => intro w; simp only [Sem.run]; exact ih _ _
  | mark m k ih => intro w; simp only [Sem.run]; exact ih _
theorem runT_drawn {α : Type} (p : Program) (s : Sem α) (w : World) (es : Array Event) : w.drawn ≤ (Rw (s.runT p w es).1).drawn := by
  rw [Sem.runT_fst]; exact run_drawn p s w
theorem run_ok {α : Type} {p : Program} {s : Sem α} {w w' : World} {a : α} (h : s.run p w = .ok a w') : w.drawn ≤ w'.drawn := by
  have := run_drawn p s w
  rw [h] at this
  exact this
theorem run_halt {α : Type} {p : Program} {s : Sem α} {w w' : World} {a : Halt} (h : s.run p w = .halt a w') : w.drawn ≤ w'.drawn := by
  have := run_drawn p s w
  rw [h] at this
  exact this
theorem runT_ok {α : Type} {p : Program} {s : Sem α} {w w' : World} {a : α} {es es' : Array Event} (h : s.runT p w es = (.ok a w', es')) : w.drawn ≤ w'.drawn := by
  have := runT_drawn p s w es
  rw [h] at this
  exact this
theorem runT_halt {α : Type} {p : Program} {s : Sem α} {w w' : World} {a : Halt} {es es' : Array Event} (h : s.runT p w es = (.halt a w', es')) : w.drawn ≤ w'.drawn := by
  have := runT_drawn p s w es
  rw [h] at this
  exact this
/-- A goroutine's step draws on. -/
def Gd (n : Nat) : GStep → Prop
  | .go _ w _ => n ≤ w.drawn
  | .comm _ _ _ _ w _ => n ≤ w.drawn
  | .spawn _ _ w _ => n ≤ w.drawn
  | .count _ w _ => n ≤ w.drawn
  | .timer _ _ w _ => n ≤ w.drawn
  | .alone _ _ w _ => n ≤ w.drawn
  | .newcoro _ _ _ w _ => n ≤ w.drawn
  | .coroswitch _ _ _ w _ => n ≤ w.drawn
  | .collect _ w _ => n ≤ w.drawn
  | .watch _ w _ => n ≤ w.drawn
  | .ended _ _ _ => True
theorem Gd_after {n : Nat} {es : Array Event} {s : GStep} (h : Gd n s) : Gd n (GStep.after es s) := by cases s <;> exact h
theorem Gd_mono {n k : Nat} {s : GStep} (hk : k ≤ n) (h : Gd n s) : Gd k s := by cases s <;> first | exact Nat.le_trans hk h | trivial
theorem doReturn_drawn (p : Program) (main : Bool) (fr : Frame) (callers : List Frame) (dying : Option Dying) (v : Value) (w : World) : Gd w.drawn (doReturn p main fr callers dying v w) := by
  unfold doReturn
  repeat' first
    | exact Nat.le_refl _
    | exact trivial
    | split
theorem endThrow_drawn (fr : Frame) (m : String) (w : World) : Gd w.drawn (endThrow fr m w) := by
  unfold endThrow dieOf
  exact Nat.le_refl _
theorem endThrow_go {fr : Frame} {m : String} {w w' : World} {g : Goroutine} {es : Array Event} (e : endThrow fr m w = .go g w' es) : w.drawn ≤ w'.drawn := by
  have := endThrow_drawn fr m w
  rw [e] at this
  exact this
theorem endPrinting_drawn (p : Program) (fr : Frame) (v : Value) (w : World) : Gd w.drawn (endPrinting p fr v w) := by
  unfold endPrinting
  simp only []
  repeat' first
    | exact endThrow_drawn _ _ _
    | exact trivial
    | split
theorem endFatal_drawn (p : Program) (fr : Frame) (callers : List Frame) (dying : Option Dying) (m : String) (w : World) : Gd w.drawn (endFatal p fr callers dying m w) := by
  unfold endFatal
  simp only []
  split
  · rename_i h; exact run_ok h
  · exact trivial
  · exact trivial
theorem endWith_drawn (w : World) (fd : Nat) (text : ByteArray) (o : Outcome) : Gd w.drawn (endWith w fd text o) := by
  unfold endWith
  repeat' first
    | exact trivial
    | split
theorem writeOn_drawn (p : Program) (fr : Frame) (d : Dying) (f : Fatal) (w : World) : Gd w.drawn (writeOn p fr d f w) := by
  unfold writeOn
  simp only []
  split
  · exact trivial
  · split
    all_goals first
      | exact trivial
      | (rename_i h; exact runT_ok h)
      | (rename_i h; exact runT_halt h)
theorem die_drawn (p : Program) (fr : Frame) (d : Dying) (w : World) : Gd w.drawn (die p fr d w) := by
  unfold die
  split
  · exact writeOn_drawn _ _ _ _ _
  · split
    · split
      · exact Nat.le_refl _
      · exact endWith_drawn _ _ _ _
    · simp only []
      split
      · exact Nat.le_refl _
      · split
        · rename_i h; exact run_ok h
        · exact trivial
      · refine Gd_after ?_
        split
        · rename_i h; exact run_ok ((Sem.runT_fst _ _ _ _).symm.trans h)
        · rename_i h; exact run_ok ((Sem.runT_fst _ _ _ _).symm.trans h)
        · exact trivial
        · rename_i h; exact Gd_mono (run_halt ((Sem.runT_fst _ _ _ _).symm.trans h)) (endPrinting_drawn _ _ _ _)
        · exact trivial
      · exact trivial
theorem early_drawn (p : Program) (fr : Frame) (callers : List Frame) (dying : Option Dying) (g : Nat) (w : World) : Gd w.drawn (early p fr callers dying g w) := by
  unfold early
  simp only []
  have notYet : ∀ w' : World, w.drawn ≤ w'.drawn → Gd w.drawn (match w'.heap[g]? with
      | some (.pending c elem) => GStep.go { frame := fr, callers, status := .running, dying } { w' with heap := w'.heap.setIfInBounds g (.cells c elem) }
      | _ => .ended (.stuck "early: the variable does not wait" (fr.pos p)) w') := by
    intro w' hw
    split
    · exact hw
    · exact trivial
  split
  · exact notYet w (Nat.le_refl _)
  · split
    · exact trivial
    · split
      · exact notYet w (Nat.le_refl _)
      · split
        · exact notYet w (Nat.le_refl _)
        · split
          · exact trivial
          · exact Nat.le_refl _
          · exact trivial
          · exact notYet w (Nat.le_refl _)
          · split
            · exact Nat.le_refl _
            · split
              · exact notYet w (Nat.le_refl _)
              · split
                · rename_i h; exact notYet _ (run_ok h)
                · rename_i h; exact run_ok h
                · exact trivial
theorem callDeferred_drawn (p : Program) (fr : Frame) (callers : List Frame) (dying : Option Dying) (d : Deferred) (w : World) : Gd w.drawn (callDeferred p fr callers dying d w) := by
  unfold callDeferred
  simp only []
  generalize ((match d.target with | .nil => true | x => false) && match fr.mode with | .panicking chain => true | x => false) = b
  cases b with
  | true => exact trivial
  | false =>
    rw [if_neg (by decide)]
    have hd := runT_drawn p (invoke d.target d.args) w #[]
    generalize (invoke d.target d.args).runT p w #[] = x at hd ⊢
    obtain ⟨r, es⟩ := x
    simp only [] at hd ⊢
    refine Gd_after ?_
    repeat' first
      | exact hd
      | exact trivial
      | exact Gd_mono hd (endFatal_drawn _ _ _ _ _ _)
      | exact Gd_mono hd (endThrow_drawn _ _ _)
      | split
theorem unwind_drawn (p : Program) (main : Bool) (fr : Frame) (callers : List Frame) (dying : Option Dying) (w : World) : Gd w.drawn (unwind p main fr callers dying w) := by
  unfold unwind
  split
  · simp only []
    refine Gd_after ?_
    split
    · rename_i h; exact run_ok ((Sem.runT_fst _ _ _ _).symm.trans h)
    · exact trivial
  · exact callDeferred_drawn _ _ _ _ _ _
  · split
    · exact trivial
    · split
      · exact trivial
      · split
        · exact Nat.le_refl _
        · split
          · split
            · exact Nat.le_refl _
            · split
              · rename_i h; exact run_ok h
              · exact trivial
              · exact trivial
          · split
            · exact endPrinting_drawn _ _ _ _
            · exact trivial
    · split
      · exact doReturn_drawn _ _ _ _ _ _ _
      · simp only []
        refine Gd_after ?_
        split
        · rename_i h; exact Gd_mono (run_ok ((Sem.runT_fst _ _ _ _).symm.trans h)) (doReturn_drawn _ _ _ _ _ _ _)
        · exact trivial
        · exact trivial
theorem apply_drawn (p : Program) (listen : Bool) (fr : Frame) (callers : List Frame) (dying : Option Dying) (s : Sem Next) (w : World) : Gd w.drawn (stepG.apply p listen fr callers dying s w) := by
  unfold stepG.apply
  simp only []
  refine Gd_after ?_
  have hd : w.drawn ≤ (Rw (if listen = true then s.runT p w #[] else (s.run p w, #[])).1).drawn := by
    split
    · exact runT_drawn p s w #[]
    · exact run_drawn p s w
  revert hd
  generalize (if listen = true then s.runT p w #[] else (s.run p w, #[])) = re
  intro hd
  obtain ⟨r, es⟩ := re
  simp only [] at hd ⊢
  repeat' first
    | exact hd
    | exact trivial
    | exact Gd_mono hd (endFatal_drawn _ _ _ _ _ _)
    | exact Gd_mono hd (endThrow_drawn _ _ _)
    | exact Gd_mono hd (early_drawn _ _ _ _ _ _)
    | split
theorem oper_drawn (p : Program) (listen : Bool) (fr : Frame) (callers : List Frame) (dying : Option Dying) (w : World) : Gd w.drawn (stepG.oper p listen fr callers dying w) := by
  unfold stepG.oper
  repeat' first
    | exact trivial
    | exact apply_drawn _ _ _ _ _ _ _
    | split
theorem exec_drawn (p : Program) (main listen : Bool) (fr : Frame) (callers : List Frame) (dying : Option Dying) (w : World) : Gd w.drawn (stepG.exec p main listen fr callers dying w) := by
  unfold stepG.exec
  simp only []
  have leave : ∀ (c : Prop) [Decidable c] (jump : Option Code), Gd w.drawn (match fr.roundOf with
      | none => if c then GStep.go { frame := { fr with mode := .returning }, callers, status := .running, dying } w else .ended (.stuck "exit, goto: no such block or label" (fr.pos p)) w
      | some l =>
        GStep.after (seen p fr.fn ((Instr.endRound l jump).runT p w #[]).2) <| match ((Instr.endRound l jump).runT p w #[]).1 with
        | .ok v w => doReturn p main fr callers dying v w
        | .halt _ w => .ended (.stuck "range over a function: no such loop" (fr.pos p)) w) := by
    intro c _ jump
    split
    · split
      · exact Nat.le_refl _
      · exact trivial
    · refine Gd_after ?_
      split
      · rename_i h; exact Gd_mono (run_ok ((Sem.runT_fst _ _ _ _).symm.trans h)) (doReturn_drawn _ _ _ _ _ _ _)
      · exact trivial
  split
  all_goals first
    | exact leave _ _
    | exact Nat.le_refl _
    | exact trivial
    | exact apply_drawn _ _ _ _ _ _ _
    | exact unwind_drawn _ _ _ _ _ _
    | skip
  · split
    · exact Nat.le_refl _
    · exact trivial
  · rename_i id k _
    cases exitTo id k with
    | none => exact leave _ _
    | some t => exact Nat.le_refl _
  · rename_i l k _
    cases gotoIn l k with
    | none => exact leave _ _
    | some t => exact Nat.le_refl _
  · refine Gd_after ?_
    split
    · rename_i h; exact Gd_mono (run_ok ((Sem.runT_fst _ _ _ _).symm.trans h)) (apply_drawn _ _ _ _ _ _ _)
    · exact trivial
  · refine Gd_after ?_
    split
    · rename_i h; exact run_ok ((Sem.runT_fst _ _ _ _).symm.trans h)
    · rename_i h; exact run_halt ((Sem.runT_fst _ _ _ _).symm.trans h)
    · exact trivial
  · rename_i row args _ _
    cases Extern.next row with
    | none => exact trivial
    | some e => exact apply_drawn _ _ _ _ _ _ _
  · split
    · exact Nat.le_refl _
    · split
      · rename_i h; exact run_ok h
      · exact trivial
  · split
    · exact oper_drawn _ _ _ _ _ _
    · exact Nat.le_refl _
theorem stepG_drawn (p : Program) (main : Bool) (g : Goroutine) (w : World) (listen : Bool) : Gd w.drawn (stepG p main g w listen) := by
  unfold stepG
  simp only []
  split
  · exact die_drawn _ _ _ _
  · exact exec_drawn _ _ _ _ _ _ _
  · exact unwind_drawn _ _ _ _ _ _
def Sd (n : Nat) : Stepped → Prop
  | .next m => n ≤ m.world.drawn
  | .ended _ _ => True
theorem Sd_mono {n k : Nat} {s : Stepped} (hk : k ≤ n) (h : Sd n s) : Sd k s := by cases s <;> first | exact Nat.le_trans hk h | trivial
theorem waitingAt_drawn {rest : Rest} {cases : Array CommCase} {w w' : World} (h : waitingAt rest cases w = some w') : w'.drawn = w.drawn := by
  unfold waitingAt at h
  repeat' first
    | (cases h; done)
    | (cases h; rfl)
    | split at h
theorem communicate_drawn (p : Program) (rest : Rest) (gs : Array Goroutine) (i : Nat) (g : Goroutine) (cases : Array CommCase) (blocking : Bool) (shape : CommShape) (w : World) : Sd w.drawn (communicate p rest gs i g cases blocking shape w).1 := by
  unfold communicate
  simp only []
  split
  · exact trivial
  · split
    · split
      · split
        · rename_i h; exact Nat.le_of_eq (waitingAt_drawn h).symm
        · exact trivial
      · exact Nat.le_refl _
    · split
      · exact trivial
      · rename_i h
        have hd := run_ok h
        clear h
        repeat' first
          | exact trivial
          | exact hd
          | (simp only [Sd]; exact Nat.le_trans hd (run_ok ‹Sem.run _ _ _ = Result.ok _ _›))
          | (simp only [Sd]; exact Nat.le_trans hd (run_halt ‹Sem.run _ _ _ = Result.halt _ _›))
          | split
theorem look_drawn (p : Program) (gs : Array Goroutine) (rest : Rest) (w : World) : Sd w.drawn (look p gs rest w) := by
  unfold look
  simp only []
  split
  · split
    · exact trivial
    · split
      · exact trivial
      · split
        · rename_i h; have h1 := run_ok h; exact h1
        · exact trivial
        · exact trivial
  · exact trivial
theorem look_next {p : Program} {gs : Array Goroutine} {rest : Rest} {w : World} {s : Stepped} (e : look p gs rest w = s) : Sd w.drawn s := e ▸ look_drawn p gs rest w
theorem drain_drawn (w : World) (c : Nat) : (drain w c).2.drawn = w.drawn := by
  unfold drain
  split <;> rfl
theorem retime_drawn (m : Machine) (k : Nat) (t : Timer) (when_ period : Nat) : (retime m k t when_ period).2.world.drawn = m.world.drawn := by
  unfold retime
  cases t.chan with
  | none => rfl
  | some c => exact drain_drawn m.world c
theorem named_drawn (m : Machine) (var : Addr) (f : Nat → Timer → Value × Machine) (hf : ∀ k t, (f k t).2.world.drawn = m.world.drawn) {x : Value × Machine} (h : timerOp.named m var f = .ok x) : x.2.world.drawn = m.world.drawn := by
  unfold timerOp.named at h
  split at h
  · cases h; exact hf _ _
  · cases h
theorem timerOp_drawn (m : Machine) (op : TimerOp) {x : Value × Machine} (h : timerOp m op = .ok x) : x.2.world.drawn = m.world.drawn := by
  unfold timerOp at h
  split at h
  · split at h
    · cases h; rfl
    · split at h
      · split at h
        · cases h
        · cases h; rfl
      · cases h
  · exact named_drawn _ _ _ (fun _ _ => retime_drawn _ _ _ _ _) h
  · split at h
    · rename_i m' hm
      have : m'.world.drawn = m.world.drawn := by
        unfold timerOp.opened at hm
        split at hm
        · split at hm
          · cases hm; rfl
          · cases hm
        · cases hm; rfl
      exact named_drawn _ _ _ (fun _ _ => (retime_drawn _ _ _ _ _).trans this) h
    · cases h
  · cases h; rfl
theorem rT_drawn (p : Program) (m : Machine) (i : Nat) (b : Bool) : Sd m.world.drawn (runT p m i b).1 := by
  simp only [runT]
  generalize m.gs.swapAt! _ _ = gg
  have h := stepG_drawn p (i == 0) gg.1 m.world b
  revert h
  generalize stepG p _ gg.1 m.world b = s
  intro h
  cases s <;> simp only []
  · exact h
  · exact Sd_mono h (communicate_drawn _ _ _ _ _ _ _ _ _)
  · exact h
  · split
    · exact trivial
    · exact h
  · split
    · rename_i e; exact Nat.le_trans h (Nat.le_of_eq (timerOp_drawn _ _ e).symm)
    · split
      · rename_i e; exact Nat.le_trans h (endThrow_go e)
      · exact trivial
    · exact trivial
    · exact trivial
  · exact h
  · exact h
  · split
    · exact h
    · split
      · rename_i e; exact Nat.le_trans h (endThrow_go e)
      · exact trivial
    · exact trivial
  · exact Sd_mono h (look_drawn _ _ _ _)
  · exact h
  · exact trivial
theorem serve_drawn (p : Program) (m : Machine) (k : Nat) : Sd m.world.drawn (serve p m k) := by
  unfold serve
  simp only []
  repeat' first
    | exact trivial
    | exact Nat.le_refl _
    | split
def Vd (n : Nat) : Move → Prop
  | .goroutine m _ => n ≤ m.world.drawn
  | .machine s _ => Sd n s
theorem Vd_mono {n k : Nat} {s : Move} (hk : k ≤ n) (h : Vd n s) : Vd k s := by
  cases s with
  | goroutine m i => exact Nat.le_trans hk h
  | machine s ops => exact Sd_mono hk h
theorem askOn_drawn (p : Program) (m : Machine) : Vd m.world.drawn (askOn p m) := by
  unfold askOn
  simp only []
  have pick : ∀ m' : Machine, m.world.drawn ≤ m'.world.drawn → Vd m.world.drawn (match (choose (.sched (runnable m.gs m.world.os.mono).length)).run p m'.world with
      | .halt _ w => Move.machine (.ended (.stuck "sched" "") w)
      | .ok k world =>
        if (runnable m.gs m.world.os.mono).length ≤ 1 then .goroutine { m' with world } ((runnable m.gs m.world.os.mono).getD k 0) else
        match (choose (.extern "sched.slice" 65536)).run p world with
        | .halt _ w => .machine (.ended (.stuck "sched.slice" "") w)
        | .ok n world => .goroutine { m' with world, rest := { m'.rest with slice := if n = 0 then none else some ((runnable m.gs m.world.os.mono).getD k 0, n) } } ((runnable m.gs m.world.os.mono).getD k 0)) := by
    intro m' hm
    split
    · exact trivial
    · rename_i h
      have h1 := Nat.le_trans hm (run_ok h)
      split
      · exact h1
      · split
        · exact trivial
        · rename_i h2; exact Nat.le_trans h1 (run_ok h2)
  split
  · exact trivial
  · rename_i k world h
    have h1 : m.world.drawn ≤ world.drawn := run_ok h
    split
    · exact Sd_mono h1 (serve_drawn p { m with world } _)
    · split
      · split
        · exact h1
        · split
          · exact h1
          · split
            · exact trivial
            · exact trivial
      · split
        · exact pick { m with world } h1
        · split
          · exact trivial
          · rename_i h2; have h3 := Nat.le_trans h1 (run_ok h2); exact pick { m with world := _ } h3
          · rename_i h2; have h3 := Nat.le_trans h1 (run_ok h2); exact h3
          · rename_i h2; have h3 := Nat.le_trans h1 (run_ok h2); exact pick (Machine.advanceTo { m with world := _ } _) h3
theorem asked_drawn (p : Program) (m : Machine) : Vd m.world.drawn (ask p m) := by
  unfold ask
  split
  · split
    · exact trivial
    · rename_i h
      split
      · rename_i m' e
        have h1 := look_next e
        have h2 := Nat.le_trans (run_ok h) h1
        exact Vd_mono h2 (askOn_drawn p m')
      · exact Sd_mono (run_ok h) (look_drawn _ _ _ _)
    · rename_i h
      exact Vd_mono (run_ok h) (askOn_drawn p { m with world := _ })
  · exact askOn_drawn p m
theorem move_drawn (p : Program) (m : Machine) : Vd m.world.drawn (move p m) := by
  unfold move
  split
  · split
    · exact Nat.le_refl _
    · exact trivial
  · split
    · split
      · exact Nat.le_refl _
      · exact asked_drawn p { m with rest := _ }
    · exact asked_drawn p m
theorem step_drawn (p : Program) (m m' : Machine) (h : step p m = .next m') : m.world.drawn ≤ m'.world.drawn := by
  unfold step stepT at h
  have hm := move_drawn p m
  split at h
  · rename_i m1 i e
    rw [e] at hm
    have := rT_drawn p m1 i true
    rw [h] at this
    exact Nat.le_trans hm this
  · rename_i s ops e
    rw [e] at hm
    have h : s = .next m' := h
    rw [h] at hm
    exact hm
theorem runN_drawn (p : Program) : ∀ (n : Nat) (m m' : Machine), runN p n m = .next m' → m.world.drawn ≤ m'.world.drawn
  | 0, m, m', h => by
    unfold runN at h
    cases h
    exact Nat.le_refl _
  | n + 1, m, m', h => by
    unfold runN at h
    split at h
    · rename_i e; exact Nat.le_trans (step_drawn _ _ _ e) (runN_drawn p n _ _ h)
    · rename_i e
      rw [h] at e
      exact absurd rfl (e _)
/-- A call that returns has drawn on. -/
theorem calls_drawn {P : Program} {f : FuncId} {args : Array Value} {w : World} {v : Value} {R : World → Prop} (h : Calls P f args w fun e w' => e = .returned v ∧ R w') : Calls P f args w fun e w' => e = .returned v ∧ R w' ∧ w.drawn ≤ w'.drawn := fun cs => by
  obtain ⟨e, w', fr, ⟨h1, h2⟩, h3, h4⟩ := h cs
  subst h1
  obtain ⟨n, hn⟩ := h3
  exact ⟨_, w', fr, ⟨rfl, h2, runN_drawn P n _ _ hn⟩, ⟨n, hn⟩, h4⟩
end Go.TR
