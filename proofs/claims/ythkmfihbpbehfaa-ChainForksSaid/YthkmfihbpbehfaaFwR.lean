/-
A small program logic of our own for the model. Part r: code with a hole: up to the hole by the evaluator, from there by hand. Nothing here speaks of one program.
-/
import Derived.RangeFuncNested
import Derived.RangeFuncLeaves
import Derived.Test.YthkmfihbpbehfaaFwK
namespace Go.TR
open Go.RowKit (Below)
set_option linter.unusedVariables false
set_option linter.unusedSimpArgs false
variable {P : Program} {tb : Tb} {N : Nat}
def Goes (P : Program) (c : Ctx) (N : Nat) (code : Code) (Q : Exit → Act → World → Prop) (st : St) : Prop := ∀ a w, Sat c N st a w → code.wp P Q a w
def goesK (P : Program) (c : Ctx) (N : Nat) (y : Code) (Q : Exit → Act → World → Prop) : Exit → St → Prop
  | .normal, st => Goes P c N y Q st
  | e, st => ∀ a w, Sat c N st a w → Q e a w
theorem goes_seq (htb : TbOK P tb) (hm : P.follows .mixedOrders = true) {c : Ctx} {x y : Code} {Q : Exit → Act → World → Prop} {st : St} (h : vc P tb N x (goesK P c N y Q) st) : Goes P c N (x.seq y) Q st := fun a w hs => by
  refine wp_seq (wp_mono (vc_sound htb hm c x _ st a w hs h) ?_)
  rintro e a' w' ⟨st', hs', hk⟩
  cases e <;> exact hk a' w' hs'
theorem goesK_n {c : Ctx} {y : Code} {Q : Exit → Act → World → Prop} {st : St} (h : Goes P c N y Q st) : goesK P c N y Q .normal st := h
theorem goes_seqn (htb : TbOK P tb) (hm : P.follows .mixedOrders = true) {c : Ctx} {x y : Code} {Q : Exit → Act → World → Prop} {st : St} (h : vc P tb N x (goesK P c N y Q) st) : goesK P c N (x.seq y) Q .normal st := goes_seq htb hm h
theorem goes_seq2 (htb : TbOK P tb) (hm : P.follows .mixedOrders = true) {c : Ctx} {x y z : Code} {Q : Exit → Act → World → Prop} {st : St} (h : vc P tb N x (goesK P c N y (Exit.then (z.wp P Q) Q)) st) : goesK P c N ((x.seq y).seq z) Q .normal st := fun a w hs =>
  wp_seq (goes_seq htb hm h a w hs)
theorem ret_goes (htb : TbOK P tb) {c : Ctx} {y : Code} {n : Nat} {fn : Func} {x : Value} {st : St} {xs : List Value} (hx : resV tb st fn.results.toList = some xs) (e : tupV xs = x) :
    goesK P c N y (bodyPostM Fence.wide n P fn fun e w' => e = .returned x ∧ Pres [] c.wE w') .ret st := fun a w hs => by
  show LeavesInM _ _ _ _ _ _ a.defers _ _
  rw [hs.defers]
  exact ⟨_, results_ok htb hs hx, by rw [e], hs.wok.pres⟩
/-- A function with a hole in it. -/
theorem plain_goes (n : Nat) {f : FuncId} {fn : Func} {code : Code} (hf : P.funcs[f]? = some fn) (hb : fn.body = some code) {N : Nat} (hn : fn.ntmps = N) {args : List Value} {env : Env} (he : paramEnv 0 args = env) (hN : Nat.ble args.length N = true) {F : Hp} {x : Value}
    (h : ∀ w, F.le w → Goes P ⟨w, F, F, [], 0⟩ N code (bodyPostM Fence.wide n P fn fun e w' => e = .returned x ∧ Pres [] w w') ⟨env, F, [], 0⟩) : Plain P F f args x := by
  intro w hF
  subst hn he
  have hN' : args.length ≤ fn.ntmps := by simpa using hN
  refine (callsIn_wide (n := n)).1 (callsIn_of_wp_marks hf hb trivial ?_ rfl)
  exact wpIn_wide.2 (h w hF _ _ (start_sat hN' hF))
theorem goes_hole {c : Ctx} {code : Code} {Q : Exit → Act → World → Prop} {st : St} (h : ∀ a w, Sat c N st a w → code.wp P Q a w) : Goes P c N code Q st := h
/-- A variable of one cell. -/
theorem sat_boxed {c : Ctx} {env : Env} {F : Hp} {rs : RL} {nx : Nat} {a : Act} {w : World} (h : GSat c N [] ⟨env, F, rs, nx⟩ a w) {id b : Nat} {t : TypeId} {v : Value} (hr : lkR rs id = some ⟨some b, [.v v], t, 1⟩) : w.heap[b]? = some (.cells #[v] t (0, 0)) := by
  have h1 := h.wok.own.own id _ hr
  simp only at h1
  obtain ⟨_, _, cur, g3, g4, g5⟩ := h1
  have g6 := g5 0 (.v v) v rfl rfl
  have : cur = #[v] := by
    apply Array.ext (by simpa using g4)
    intro i h2 h3
    have : i = 0 := by simp at h3; omega
    subst this
    have := (Array.getElem?_eq_some_iff.1 g6).2
    simpa using this
  rw [this] at g3
  exact g3
theorem sat_apart {c : Ctx} {env : Env} {F : Hp} {rs : RL} {nx : Nat} {a : Act} {w : World} (h : GSat c N [] ⟨env, F, rs, nx⟩ a w) {i j b b' : Nat} {r s : Blk} (hi : lkR rs i = some r) (hj : lkR rs j = some s) (hb : r.blk = some b) (hs : s.blk = some b') (hij : i ≠ j) : b ≠ b' := by
  rintro rfl
  exact hij (h.wok.own.apart i j r s b hi hj hb hs)
theorem arr_cons {l : List Value} {n : Nat} (h : l.length = n + 1) : ∃ x t, l = x :: t ∧ t.length = n := by
  cases l with
  | nil => simp at h
  | cons x t => exact ⟨x, t, rfl, by simpa using h⟩
theorem arr_nil {l : List Value} (h : l.length = 0) : l = [] := List.eq_nil_of_length_eq_zero h
/-- Below says what Pres says. -/
theorem pres_of_below {w w' : World} (h : Below w.heap.size w w') : Pres [] w w' := ⟨h.os, h.tape, h.output, h.size, fun k hk _ => h.block k hk⟩
theorem below_of_pres {w w' : World} (h : Pres [] w w') : Below w.heap.size w w' := ⟨h.os, h.tape, h.output, h.size, fun k hk => h.block k hk (by simp)⟩
theorem le_of_below {F : Hp} {w w' : World} {n : Nat} (hF : F.le w) (hn : ∀ k o, F k = some o → k < n) (h : Below n w w') : F.le w' := fun k o e => (h.block k (hn k o e)).trans (hF k o e)
theorem le_lt {F : Hp} {w : World} (hF : F.le w) {k : Nat} {o : Obj} (e : F k = some o) : k < w.heap.size := (Array.getElem?_eq_some_iff.1 (hF k o e)).1
end Go.TR
