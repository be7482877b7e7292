/-
A small program logic of our own for the model. Part z: the plain steps, one behind the other, as far as they go.
-/
import Derived.Test.YtaienbnadbadfaaFwq
namespace Go.TR
theorem stp {A B C : Prop} (f : B → C) (k : A → B) : A → C := fun a => f (k a)
theorem stpA {A B : Nat → Prop} {C : Prop} (f : (∀ b, B b) → C) (k : ∀ b, A b → B b) : (∀ b, A b) → C := fun a => f fun b => k b (a b)
/-- What is left when all plain steps are done. -/
theorem run {G : Prop} {H : Unit → Prop} (k : H ()) (h : ∀ u, H u → G := by
  intro u
  repeat (first
    | refine stp (Go.TR.s_pure rfl rfl rfl) ?_ | refine stp (Go.TR.s_loc rfl rfl) ?_ | refine stp (Go.TR.s_known rfl rfl rfl) ?_ | refine stp (Go.TR.s_unwanted rfl rfl rfl) ?_
    | refine stp (Go.TR.s_unwantedU rfl rfl rfl) ?_ | refine stp (Go.TR.s_unwantedG rfl rfl rfl rfl rfl) ?_ | refine stp (Go.TR.s_unwantedUG rfl rfl rfl rfl rfl) ?_ | refine stp (Go.TR.s_gpure rfl rfl rfl rfl rfl) ?_
    | refine stp (Go.TR.s_gloc rfl rfl rfl rfl) ?_ | refine stp (Go.TR.s_store rfl) ?_ | refine stp (Go.TR.s_pureG rfl rfl rfl rfl) ?_ | refine stp (Go.TR.s_pick rfl rfl rfl) ?_
    | refine stp (Go.TR.s_pickK rfl rfl) ?_ | refine stp (Go.TR.s_pick0 rfl rfl) ?_ | refine stp (Go.TR.s_gpick rfl rfl rfl rfl) ?_ | refine stp (Go.TR.s_locG rfl rfl rfl) ?_
    | refine stp Go.TR.s_nil ?_ | refine stp Go.TR.s_drop ?_ | refine stp Go.TR.s_back ?_ | refine stp Go.TR.s_seqn ?_
    | refine stp Go.TR.s_seqr ?_ | refine stp Go.TR.s_seqe ?_ | refine stp Go.TR.s_seq ?_ | refine stp Go.TR.s_region ?_
    | refine stp Go.TR.s_block ?_ | refine stp Go.TR.s_blockn ?_ | refine stp Go.TR.s_blockr ?_ | refine stp Go.TR.s_blocke ?_
    | refine stp (Go.TR.s_blocko rfl) ?_ | refine stp Go.TR.s_skip ?_ | refine stp Go.TR.s_ret ?_ | refine stp Go.TR.s_exit ?_
    | (refine' stpA (Go.TR.s_box rfl rfl rfl rfl) (fun b => ?_); rotate_left) | (refine' stpA (Go.TR.s_alloc rfl rfl rfl rfl) (fun b => ?_); rotate_left) | refine stp (Go.TR.s_condt rfl) ?_ | refine stp (Go.TR.s_condf rfl) ?_
    | (refine' stpA (Go.TR.s_bslice rfl rfl rfl rfl rfl rfl rfl rfl) (fun b => ?_); rotate_left) | refine stp Go.TR.s_loopr ?_ | refine stp Go.TR.s_loope ?_ | refine stp Go.TR.s_loopPr ?_
    | refine stp Go.TR.s_loopPe ?_ | refine stp (Go.TR.s_pureO rfl rfl rfl (by decide)) ?_ | refine stp (Go.TR.s_gpureO rfl rfl rfl rfl rfl (fun _ => by decide)) ?_ | refine stp (Go.TR.s_end rfl) ?_
    | refine stp (Go.TR.s_endn rfl) ?_ | refine stp (Go.TR.s_inend rfl) ?_ | refine stp (Go.TR.s_inendn rfl) ?_)
  exact fun h => h) : G := h () k
/-- What is left when all plain steps are done. -/
theorem runB {G : Prop} {H : Unit → Prop} (k : H ()) (h : ∀ u, H u → G := by
  intro u
  repeat (first
    | refine stp (Go.TR.s_pure rfl rfl rfl) ?_ | refine stp (Go.TR.s_loc rfl rfl) ?_ | refine stp (Go.TR.s_known rfl rfl rfl) ?_ | refine stp (Go.TR.s_unwanted rfl rfl rfl) ?_
    | refine stp (Go.TR.s_unwantedU rfl rfl rfl) ?_ | refine stp (Go.TR.s_unwantedG rfl rfl rfl rfl rfl) ?_ | refine stp (Go.TR.s_unwantedUG rfl rfl rfl rfl rfl) ?_ | refine stp (Go.TR.s_gpure rfl rfl rfl rfl rfl) ?_
    | refine stp (Go.TR.s_gloc rfl rfl rfl rfl) ?_ | refine stp (Go.TR.s_store rfl) ?_ | refine stp (Go.TR.s_pureG rfl rfl rfl rfl) ?_ | refine stp (Go.TR.s_pick rfl rfl rfl) ?_
    | refine stp (Go.TR.s_pickK rfl rfl) ?_ | refine stp (Go.TR.s_pick0 rfl rfl) ?_ | refine stp (Go.TR.s_gpick rfl rfl rfl rfl) ?_ | refine stp (Go.TR.s_locG rfl rfl rfl) ?_
    | refine stp Go.TR.s_nil ?_ | refine stp Go.TR.s_drop ?_ | refine stp Go.TR.s_back ?_ | refine stp Go.TR.s_seqn ?_
    | refine stp Go.TR.s_seqr ?_ | refine stp Go.TR.s_seqe ?_ | refine stp Go.TR.s_seq ?_ | refine stp Go.TR.s_region ?_
    | refine stp Go.TR.s_blockn ?_ | refine stp Go.TR.s_blockr ?_ | refine stp Go.TR.s_blocke ?_ | refine stp (Go.TR.s_blocko rfl) ?_
    | refine stp Go.TR.s_skip ?_ | refine stp Go.TR.s_ret ?_ | refine stp Go.TR.s_exit ?_ | (refine' stpA (Go.TR.s_box rfl rfl rfl rfl) (fun b => ?_); rotate_left)
    | (refine' stpA (Go.TR.s_alloc rfl rfl rfl rfl) (fun b => ?_); rotate_left) | refine stp (Go.TR.s_condt rfl) ?_ | refine stp (Go.TR.s_condf rfl) ?_ | (refine' stpA (Go.TR.s_bslice rfl rfl rfl rfl rfl rfl rfl rfl) (fun b => ?_); rotate_left)
    | refine stp Go.TR.s_loopr ?_ | refine stp Go.TR.s_loope ?_ | refine stp Go.TR.s_loopPr ?_ | refine stp Go.TR.s_loopPe ?_
    | refine stp (Go.TR.s_pureO rfl rfl rfl (by decide)) ?_ | refine stp (Go.TR.s_gpureO rfl rfl rfl rfl rfl (fun _ => by decide)) ?_ | refine stp (Go.TR.s_end rfl) ?_ | refine stp (Go.TR.s_endn rfl) ?_
    | refine stp (Go.TR.s_inend rfl) ?_ | refine stp (Go.TR.s_inendn rfl) ?_)
  exact fun h => h) : G := h () k
/-- What is left when all plain steps are done. -/
theorem runR {G : Prop} {H : Unit → Prop} (k : H ()) (h : ∀ u, H u → G := by
  intro u
  repeat (first
    | refine stp (Go.TR.s_pure rfl rfl rfl) ?_ | refine stp (Go.TR.s_loc rfl rfl) ?_ | refine stp (Go.TR.s_known rfl rfl rfl) ?_ | refine stp (Go.TR.s_unwanted rfl rfl rfl) ?_
    | refine stp (Go.TR.s_unwantedU rfl rfl rfl) ?_ | refine stp (Go.TR.s_unwantedG rfl rfl rfl rfl rfl) ?_ | refine stp (Go.TR.s_unwantedUG rfl rfl rfl rfl rfl) ?_ | refine stp (Go.TR.s_gpure rfl rfl rfl rfl rfl) ?_
    | refine stp (Go.TR.s_gloc rfl rfl rfl rfl) ?_ | refine stp (Go.TR.s_store rfl) ?_ | refine stp (Go.TR.s_pureG rfl rfl rfl rfl) ?_ | refine stp (Go.TR.s_pick rfl rfl rfl) ?_
    | refine stp (Go.TR.s_pickK rfl rfl) ?_ | refine stp (Go.TR.s_pick0 rfl rfl) ?_ | refine stp (Go.TR.s_gpick rfl rfl rfl rfl) ?_ | refine stp (Go.TR.s_locG rfl rfl rfl) ?_
    | refine stp Go.TR.s_nil ?_ | refine stp Go.TR.s_drop ?_ | refine stp Go.TR.s_back ?_ | refine stp Go.TR.s_seqn ?_
    | refine stp Go.TR.s_seqr ?_ | refine stp Go.TR.s_seqe ?_ | refine stp Go.TR.s_seq ?_ | refine stp Go.TR.s_block ?_
    | refine stp Go.TR.s_blockn ?_ | refine stp Go.TR.s_blockr ?_ | refine stp Go.TR.s_blocke ?_ | refine stp (Go.TR.s_blocko rfl) ?_
    | refine stp Go.TR.s_skip ?_ | refine stp Go.TR.s_ret ?_ | refine stp Go.TR.s_exit ?_ | (refine' stpA (Go.TR.s_box rfl rfl rfl rfl) (fun b => ?_); rotate_left)
    | (refine' stpA (Go.TR.s_alloc rfl rfl rfl rfl) (fun b => ?_); rotate_left) | refine stp (Go.TR.s_condt rfl) ?_ | refine stp (Go.TR.s_condf rfl) ?_ | (refine' stpA (Go.TR.s_bslice rfl rfl rfl rfl rfl rfl rfl rfl) (fun b => ?_); rotate_left)
    | refine stp Go.TR.s_loopr ?_ | refine stp Go.TR.s_loope ?_ | refine stp Go.TR.s_loopPr ?_ | refine stp Go.TR.s_loopPe ?_
    | refine stp (Go.TR.s_pureO rfl rfl rfl (by decide)) ?_ | refine stp (Go.TR.s_gpureO rfl rfl rfl rfl rfl (fun _ => by decide)) ?_ | refine stp (Go.TR.s_end rfl) ?_ | refine stp (Go.TR.s_endn rfl) ?_
    | refine stp (Go.TR.s_inend rfl) ?_ | refine stp (Go.TR.s_inendn rfl) ?_)
  exact fun h => h) : G := h () k
end Go.TR
