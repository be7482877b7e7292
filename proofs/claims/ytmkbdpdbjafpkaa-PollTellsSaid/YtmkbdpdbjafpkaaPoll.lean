/-
Package poll and its reference: what each function computes.
-/
import Derived.Test.YtmkbdpdbjafpkaaTb
namespace Go.Proofs.Ytmkbdpdbjafpkaa
open Go.TR
attribute [local irreducible] vc vcOps seqK blockK loopK retK retG loopV Plain CallOK bodied VS
/-- A poll as the machine holds it. -/
structure Poll where
  least : Int
  most : Int
  lost : Int
  gap : Int
  next : Int
  asked : Int
@[reducible] def Poll.v (p : Poll) : Value := .agg #[.int .i64 p.least, .int .i64 p.most, .int .i64 p.lost, .int .i64 p.gap, .int .i64 p.next, .int .i64 p.asked]
@[reducible] def i64 (n : Int) : Value := .int .i64 n
def Poll.bad (p : Poll) : Bool := decide (p.least < 1) || decide (p.most < p.least) || decide (1000 < p.most) || decide (p.lost < 1) || decide (100 < p.lost) || decide (p.gap < p.least) || decide (p.most < p.gap) || decide (p.next < 0) || decide (1000000000 < p.next) || decide (p.asked < 0) || decide (1000000 < p.asked)
def Poll.fault (p : Poll) : Int := if p.bad then 4 else 0
theorem bpick_or (b x : Bool) : bpick b true x = (b || x) := by cases b <;> rfl
theorem bpick_and (b x : Bool) : bpick b x false = (b && x) := by cases b <;> rfl
set_option maxRecDepth 100000 in
theorem poll_check (p : Poll) (F : Hp) : Plain Try.prog F 27 [p.v] (i64 p.fault) := by
  refine plain_vc (N := 62) (rv := [.tmp 2]) tbok mixed Try.func27 rfl rfl rfl rfl rfl ?_
  repeat (first
    | refine s_pure rfl rfl rfl ?_ | refine s_loc rfl rfl ?_ | refine s_gpure rfl rfl rfl rfl rfl ?_ | refine s_gloc rfl rfl rfl rfl ?_ | refine s_store rfl ?_ | refine s_pureG rfl rfl rfl rfl ?_
    | refine s_pick rfl rfl rfl ?_ | refine s_gpick rfl rfl rfl rfl ?_ | refine s_locG rfl rfl rfl ?_ | refine s_nil ?_ | refine s_seqn ?_ | refine s_seqr ?_ | refine s_seqe ?_ | refine s_seq ?_
    | refine s_region ?_ | refine s_block ?_ | refine s_blockn ?_ | refine s_blockr ?_ | refine s_blocke ?_ | refine s_blocko rfl ?_ | refine s_skip ?_ | refine s_ret ?_ | refine s_exit ?_
    | (refine s_box rfl rfl rfl rfl (fun b => ?_)) | (refine s_alloc rfl rfl rfl rfl (fun b => ?_)) | refine s_condt rfl ?_ | refine s_condf rfl ?_ | refine s_loopr ?_ | refine s_loope ?_
    | refine s_end rfl ?_ | refine s_endn rfl ?_)
  refine s_if _ rfl (fun h => ?_) (fun h => ?_)
  all_goals
    repeat (first
    | refine s_pure rfl rfl rfl ?_ | refine s_loc rfl rfl ?_ | refine s_gpure rfl rfl rfl rfl rfl ?_ | refine s_gloc rfl rfl rfl rfl ?_ | refine s_store rfl ?_ | refine s_pureG rfl rfl rfl rfl ?_
    | refine s_pick rfl rfl rfl ?_ | refine s_gpick rfl rfl rfl rfl ?_ | refine s_locG rfl rfl rfl ?_ | refine s_nil ?_ | refine s_seqn ?_ | refine s_seqr ?_ | refine s_seqe ?_ | refine s_seq ?_
    | refine s_region ?_ | refine s_block ?_ | refine s_blockn ?_ | refine s_blockr ?_ | refine s_blocke ?_ | refine s_blocko rfl ?_ | refine s_skip ?_ | refine s_ret ?_ | refine s_exit ?_
    | (refine s_box rfl rfl rfl rfl (fun b => ?_)) | (refine s_alloc rfl rfl rfl rfl (fun b => ?_)) | refine s_condt rfl ?_ | refine s_condf rfl ?_ | refine s_loopr ?_ | refine s_loope ?_
    | refine s_end rfl ?_ | refine s_endn rfl ?_)
    simp only [bpick_or] at h
    simp only [tupV, Poll.fault, Poll.bad, h]
    rfl

def Poll.fault2 (p : Poll) (now : Int) : Int := if p.bad then 4 else if now < 0 ∨ 1000000000 < now then 4 else 0
theorem Poll.fault_zero (p : Poll) : (p.fault == 0) = !p.bad := by unfold Poll.fault; cases p.bad <;> rfl
set_option maxRecDepth 100000 in
theorem poll_check2 (p : Poll) (now : Int) (F : Hp) : Plain Try.prog F 144 [p.v, i64 now] (i64 (p.fault2 now)) := by
  refine plain_vc (N := 19) (rv := [.tmp 4]) tbok mixed Try.func144 rfl rfl rfl rfl rfl ?_
  repeat (first
    | refine s_pure rfl rfl rfl ?_ | refine s_loc rfl rfl ?_ | refine s_gpure rfl rfl rfl rfl rfl ?_ | refine s_gloc rfl rfl rfl rfl ?_ | refine s_store rfl ?_ | refine s_pureG rfl rfl rfl rfl ?_
    | refine s_pick rfl rfl rfl ?_ | refine s_gpick rfl rfl rfl rfl ?_ | refine s_locG rfl rfl rfl ?_ | refine s_nil ?_ | refine s_seqn ?_ | refine s_seqr ?_ | refine s_seqe ?_ | refine s_seq ?_
    | refine s_region ?_ | refine s_block ?_ | refine s_blockn ?_ | refine s_blockr ?_ | refine s_blocke ?_ | refine s_blocko rfl ?_ | refine s_skip ?_ | refine s_ret ?_ | refine s_exit ?_
    | (refine s_box rfl rfl rfl rfl (fun b => ?_)) | (refine s_alloc rfl rfl rfl rfl (fun b => ?_)) | refine s_condt rfl ?_ | refine s_condf rfl ?_ | refine s_loopr ?_ | refine s_loope ?_
    | refine s_end rfl ?_ | refine s_endn rfl ?_)
  refine s_plain (i64 p.fault) rfl rfl rfl bd27 rfl (poll_check p F) ?_
  repeat (first
    | refine s_pure rfl rfl rfl ?_ | refine s_loc rfl rfl ?_ | refine s_gpure rfl rfl rfl rfl rfl ?_ | refine s_gloc rfl rfl rfl rfl ?_ | refine s_store rfl ?_ | refine s_pureG rfl rfl rfl rfl ?_
    | refine s_pick rfl rfl rfl ?_ | refine s_gpick rfl rfl rfl rfl ?_ | refine s_locG rfl rfl rfl ?_ | refine s_nil ?_ | refine s_seqn ?_ | refine s_seqr ?_ | refine s_seqe ?_ | refine s_seq ?_
    | refine s_region ?_ | refine s_block ?_ | refine s_blockn ?_ | refine s_blockr ?_ | refine s_blocke ?_ | refine s_blocko rfl ?_ | refine s_skip ?_ | refine s_ret ?_ | refine s_exit ?_
    | (refine s_box rfl rfl rfl rfl (fun b => ?_)) | (refine s_alloc rfl rfl rfl rfl (fun b => ?_)) | refine s_condt rfl ?_ | refine s_condf rfl ?_ | refine s_loopr ?_ | refine s_loope ?_
    | refine s_end rfl ?_ | refine s_endn rfl ?_)
  refine s_if _ rfl (fun h => ?_) (fun h => ?_)
  all_goals
    repeat (first
    | refine s_pure rfl rfl rfl ?_ | refine s_loc rfl rfl ?_ | refine s_gpure rfl rfl rfl rfl rfl ?_ | refine s_gloc rfl rfl rfl rfl ?_ | refine s_store rfl ?_ | refine s_pureG rfl rfl rfl rfl ?_
    | refine s_pick rfl rfl rfl ?_ | refine s_gpick rfl rfl rfl rfl ?_ | refine s_locG rfl rfl rfl ?_ | refine s_nil ?_ | refine s_seqn ?_ | refine s_seqr ?_ | refine s_seqe ?_ | refine s_seq ?_
    | refine s_region ?_ | refine s_block ?_ | refine s_blockn ?_ | refine s_blockr ?_ | refine s_blocke ?_ | refine s_blocko rfl ?_ | refine s_skip ?_ | refine s_ret ?_ | refine s_exit ?_
    | (refine s_box rfl rfl rfl rfl (fun b => ?_)) | (refine s_alloc rfl rfl rfl rfl (fun b => ?_)) | refine s_condt rfl ?_ | refine s_condf rfl ?_ | refine s_loopr ?_ | refine s_loope ?_
    | refine s_end rfl ?_ | refine s_endn rfl ?_)
    simp only [bpick_or, bpick_and, Poll.fault_zero] at h
    simp only [tupV, Poll.fault2, Poll.fault]
    cases hb : p.bad <;> simp_all

def Poll.none : Poll := ⟨0, 0, 0, 0, 0, 0⟩
@[reducible] def pair (a b : Value) : Value := .tuple #[a, b]
def Poll.fresh (least most lost : Int) : Poll := ⟨least, most, lost, least, 0, 0⟩
/-- The poll, or none with an error. -/
def Poll.orNone (p : Poll) (e : Int) : Poll := if e ≠ 0 then Poll.none else p
theorem fault_ne (p : Poll) : (p.fault != 0) = p.bad := by unfold Poll.fault; cases p.bad <;> rfl
set_option maxRecDepth 100000 in
theorem poll_new (least most lost : Int) (F : Hp) : Plain Try.prog F 21 [i64 least, i64 most, i64 lost] (pair ((Poll.fresh least most lost).orNone (Poll.fresh least most lost).fault).v (i64 (Poll.fresh least most lost).fault)) := by
  refine plain_vc (N := 22) (rv := [.cell 6 28, .tmp 7]) tbok mixed Try.func21 rfl rfl rfl rfl rfl ?_
  repeat (first
    | refine s_pure rfl rfl rfl ?_ | refine s_loc rfl rfl ?_ | refine s_gpure rfl rfl rfl rfl rfl ?_ | refine s_gloc rfl rfl rfl rfl ?_ | refine s_store rfl ?_ | refine s_pureG rfl rfl rfl rfl ?_
    | refine s_pick rfl rfl rfl ?_ | refine s_gpick rfl rfl rfl rfl ?_ | refine s_locG rfl rfl rfl ?_ | refine s_nil ?_ | refine s_seqn ?_ | refine s_seqr ?_ | refine s_seqe ?_ | refine s_seq ?_
    | refine s_region ?_ | refine s_block ?_ | refine s_blockn ?_ | refine s_blockr ?_ | refine s_blocke ?_ | refine s_blocko rfl ?_ | refine s_skip ?_ | refine s_ret ?_ | refine s_exit ?_
    | (refine s_box rfl rfl rfl rfl (fun b => ?_)) | (refine s_alloc rfl rfl rfl rfl (fun b => ?_)) | refine s_condt rfl ?_ | refine s_condf rfl ?_ | refine s_loopr ?_ | refine s_loope ?_
    | refine s_end rfl ?_ | refine s_endn rfl ?_)
  refine s_plain (i64 (Poll.fresh least most lost).fault) rfl rfl rfl bd27 rfl (poll_check (Poll.fresh least most lost) F) ?_
  repeat (first
    | refine s_pure rfl rfl rfl ?_ | refine s_loc rfl rfl ?_ | refine s_gpure rfl rfl rfl rfl rfl ?_ | refine s_gloc rfl rfl rfl rfl ?_ | refine s_store rfl ?_ | refine s_pureG rfl rfl rfl rfl ?_
    | refine s_pick rfl rfl rfl ?_ | refine s_gpick rfl rfl rfl rfl ?_ | refine s_locG rfl rfl rfl ?_ | refine s_nil ?_ | refine s_seqn ?_ | refine s_seqr ?_ | refine s_seqe ?_ | refine s_seq ?_
    | refine s_region ?_ | refine s_block ?_ | refine s_blockn ?_ | refine s_blockr ?_ | refine s_blocke ?_ | refine s_blocko rfl ?_ | refine s_skip ?_ | refine s_ret ?_ | refine s_exit ?_
    | (refine s_box rfl rfl rfl rfl (fun b => ?_)) | (refine s_alloc rfl rfl rfl rfl (fun b => ?_)) | refine s_condt rfl ?_ | refine s_condf rfl ?_ | refine s_loopr ?_ | refine s_loope ?_
    | refine s_end rfl ?_ | refine s_endn rfl ?_)
  refine s_if _ rfl (fun h => ?_) (fun h => ?_)
  · repeat (first
    | refine s_pure rfl rfl rfl ?_ | refine s_loc rfl rfl ?_ | refine s_gpure rfl rfl rfl rfl rfl ?_ | refine s_gloc rfl rfl rfl rfl ?_ | refine s_store rfl ?_ | refine s_pureG rfl rfl rfl rfl ?_
    | refine s_pick rfl rfl rfl ?_ | refine s_gpick rfl rfl rfl rfl ?_ | refine s_locG rfl rfl rfl ?_ | refine s_nil ?_ | refine s_seqn ?_ | refine s_seqr ?_ | refine s_seqe ?_ | refine s_seq ?_
    | refine s_region ?_ | refine s_block ?_ | refine s_blockn ?_ | refine s_blockr ?_ | refine s_blocke ?_ | refine s_blocko rfl ?_ | refine s_skip ?_ | refine s_ret ?_ | refine s_exit ?_
    | (refine s_box rfl rfl rfl rfl (fun b => ?_)) | (refine s_alloc rfl rfl rfl rfl (fun b => ?_)) | refine s_condt rfl ?_ | refine s_condf rfl ?_ | refine s_loopr ?_ | refine s_loope ?_
    | refine s_end rfl ?_ | refine s_endn rfl ?_)
    have h' : (Poll.fresh least most lost).fault ≠ 0 := by simpa using h
    simp only [Poll.orNone, h', ne_eq, not_false_eq_true, if_true]
    rfl
  · repeat (first
    | refine s_pure rfl rfl rfl ?_ | refine s_loc rfl rfl ?_ | refine s_gpure rfl rfl rfl rfl rfl ?_ | refine s_gloc rfl rfl rfl rfl ?_ | refine s_store rfl ?_ | refine s_pureG rfl rfl rfl rfl ?_
    | refine s_pick rfl rfl rfl ?_ | refine s_gpick rfl rfl rfl rfl ?_ | refine s_locG rfl rfl rfl ?_ | refine s_nil ?_ | refine s_seqn ?_ | refine s_seqr ?_ | refine s_seqe ?_ | refine s_seq ?_
    | refine s_region ?_ | refine s_block ?_ | refine s_blockn ?_ | refine s_blockr ?_ | refine s_blocke ?_ | refine s_blocko rfl ?_ | refine s_skip ?_ | refine s_ret ?_ | refine s_exit ?_
    | (refine s_box rfl rfl rfl rfl (fun b => ?_)) | (refine s_alloc rfl rfl rfl rfl (fun b => ?_)) | refine s_condt rfl ?_ | refine s_condf rfl ?_ | refine s_loopr ?_ | refine s_loope ?_
    | refine s_end rfl ?_ | refine s_endn rfl ?_)
    have h' : (Poll.fresh least most lost).fault = 0 := by simpa using h
    simp only [Poll.orNone, h', ne_eq, not_true_eq_false, if_false]
    rfl
def Poll.isDue (p : Poll) (now : Int) : Bool := (p.fault2 now == 0) && decide (p.next ≤ now)
set_option maxRecDepth 100000 in
theorem poll_due (p : Poll) (now : Int) (F : Hp) : Plain Try.prog F 22 [p.v, i64 now] (pair (.bool (p.isDue now)) (i64 (p.fault2 now))) := by
  refine plain_vc (N := 19) (rv := [.tmp 4, .tmp 5]) tbok mixed Try.func22 rfl rfl rfl rfl rfl ?_
  repeat (first
    | refine s_pure rfl rfl rfl ?_ | refine s_loc rfl rfl ?_ | refine s_gpure rfl rfl rfl rfl rfl ?_ | refine s_gloc rfl rfl rfl rfl ?_ | refine s_store rfl ?_ | refine s_pureG rfl rfl rfl rfl ?_
    | refine s_pick rfl rfl rfl ?_ | refine s_gpick rfl rfl rfl rfl ?_ | refine s_locG rfl rfl rfl ?_ | refine s_nil ?_ | refine s_seqn ?_ | refine s_seqr ?_ | refine s_seqe ?_ | refine s_seq ?_
    | refine s_region ?_ | refine s_block ?_ | refine s_blockn ?_ | refine s_blockr ?_ | refine s_blocke ?_ | refine s_blocko rfl ?_ | refine s_skip ?_ | refine s_ret ?_ | refine s_exit ?_
    | (refine s_box rfl rfl rfl rfl (fun b => ?_)) | (refine s_alloc rfl rfl rfl rfl (fun b => ?_)) | refine s_condt rfl ?_ | refine s_condf rfl ?_ | refine s_loopr ?_ | refine s_loope ?_
    | refine s_end rfl ?_ | refine s_endn rfl ?_)
  refine s_plain (i64 (p.fault2 now)) rfl rfl rfl bd144 rfl (poll_check2 p now F) ?_
  repeat (first
    | refine s_pure rfl rfl rfl ?_ | refine s_loc rfl rfl ?_ | refine s_gpure rfl rfl rfl rfl rfl ?_ | refine s_gloc rfl rfl rfl rfl ?_ | refine s_store rfl ?_ | refine s_pureG rfl rfl rfl rfl ?_
    | refine s_pick rfl rfl rfl ?_ | refine s_gpick rfl rfl rfl rfl ?_ | refine s_locG rfl rfl rfl ?_ | refine s_nil ?_ | refine s_seqn ?_ | refine s_seqr ?_ | refine s_seqe ?_ | refine s_seq ?_
    | refine s_region ?_ | refine s_block ?_ | refine s_blockn ?_ | refine s_blockr ?_ | refine s_blocke ?_ | refine s_blocko rfl ?_ | refine s_skip ?_ | refine s_ret ?_ | refine s_exit ?_
    | (refine s_box rfl rfl rfl rfl (fun b => ?_)) | (refine s_alloc rfl rfl rfl rfl (fun b => ?_)) | refine s_condt rfl ?_ | refine s_condf rfl ?_ | refine s_loopr ?_ | refine s_loope ?_
    | refine s_end rfl ?_ | refine s_endn rfl ?_)
  simp only [bpick_and, tupV, Poll.isDue]
set_option maxRecDepth 100000 in
theorem poll_gone (p : Poll) (F : Hp) : Plain Try.prog F 25 [p.v] (pair (.bool (!p.bad && decide (p.lost ≤ p.asked))) (i64 p.fault)) := by
  refine plain_vc (N := 17) (rv := [.tmp 2, .tmp 3]) tbok mixed Try.func25 rfl rfl rfl rfl rfl ?_
  repeat (first
    | refine s_pure rfl rfl rfl ?_ | refine s_loc rfl rfl ?_ | refine s_gpure rfl rfl rfl rfl rfl ?_ | refine s_gloc rfl rfl rfl rfl ?_ | refine s_store rfl ?_ | refine s_pureG rfl rfl rfl rfl ?_
    | refine s_pick rfl rfl rfl ?_ | refine s_gpick rfl rfl rfl rfl ?_ | refine s_locG rfl rfl rfl ?_ | refine s_nil ?_ | refine s_seqn ?_ | refine s_seqr ?_ | refine s_seqe ?_ | refine s_seq ?_
    | refine s_region ?_ | refine s_block ?_ | refine s_blockn ?_ | refine s_blockr ?_ | refine s_blocke ?_ | refine s_blocko rfl ?_ | refine s_skip ?_ | refine s_ret ?_ | refine s_exit ?_
    | (refine s_box rfl rfl rfl rfl (fun b => ?_)) | (refine s_alloc rfl rfl rfl rfl (fun b => ?_)) | refine s_condt rfl ?_ | refine s_condf rfl ?_ | refine s_loopr ?_ | refine s_loope ?_
    | refine s_end rfl ?_ | refine s_endn rfl ?_)
  refine s_plain (i64 p.fault) rfl rfl rfl bd27 rfl (poll_check p F) ?_
  repeat (first
    | refine s_pure rfl rfl rfl ?_ | refine s_loc rfl rfl ?_ | refine s_gpure rfl rfl rfl rfl rfl ?_ | refine s_gloc rfl rfl rfl rfl ?_ | refine s_store rfl ?_ | refine s_pureG rfl rfl rfl rfl ?_
    | refine s_pick rfl rfl rfl ?_ | refine s_gpick rfl rfl rfl rfl ?_ | refine s_locG rfl rfl rfl ?_ | refine s_nil ?_ | refine s_seqn ?_ | refine s_seqr ?_ | refine s_seqe ?_ | refine s_seq ?_
    | refine s_region ?_ | refine s_block ?_ | refine s_blockn ?_ | refine s_blockr ?_ | refine s_blocke ?_ | refine s_blocko rfl ?_ | refine s_skip ?_ | refine s_ret ?_ | refine s_exit ?_
    | (refine s_box rfl rfl rfl rfl (fun b => ?_)) | (refine s_alloc rfl rfl rfl rfl (fun b => ?_)) | refine s_condt rfl ?_ | refine s_condf rfl ?_ | refine s_loopr ?_ | refine s_loope ?_
    | refine s_end rfl ?_ | refine s_endn rfl ?_)
  simp only [bpick_and, tupV, Poll.fault_zero]
/-- min of now + n and the last moment. -/
def later (now n : Int) : Int := if 1000000000 < IntKind.i64.wrap (now + n) then 1000000000 else IntKind.i64.wrap (now + n)
set_option maxRecDepth 100000 in
theorem poll_later (now n : Int) (F : Hp) : Plain Try.prog F 145 [i64 now, i64 n] (i64 (later now n)) := by
  refine plain_vc (N := 9) (rv := [.tmp 4]) tbok mixed Try.func145 rfl rfl rfl rfl rfl ?_
  repeat (first
    | refine s_pure rfl rfl rfl ?_ | refine s_loc rfl rfl ?_ | refine s_gpure rfl rfl rfl rfl rfl ?_ | refine s_gloc rfl rfl rfl rfl ?_ | refine s_store rfl ?_ | refine s_pureG rfl rfl rfl rfl ?_
    | refine s_pick rfl rfl rfl ?_ | refine s_gpick rfl rfl rfl rfl ?_ | refine s_locG rfl rfl rfl ?_ | refine s_nil ?_ | refine s_seqn ?_ | refine s_seqr ?_ | refine s_seqe ?_ | refine s_seq ?_
    | refine s_region ?_ | refine s_block ?_ | refine s_blockn ?_ | refine s_blockr ?_ | refine s_blocke ?_ | refine s_blocko rfl ?_ | refine s_skip ?_ | refine s_ret ?_ | refine s_exit ?_
    | (refine s_box rfl rfl rfl rfl (fun b => ?_)) | (refine s_alloc rfl rfl rfl rfl (fun b => ?_)) | refine s_condt rfl ?_ | refine s_condf rfl ?_ | refine s_loopr ?_ | refine s_loope ?_
    | refine s_end rfl ?_ | refine s_endn rfl ?_)
  rfl
def min2 (x y : Int) : Int := if y < x then y else x
def Poll.heard (p : Poll) (now : Int) : Poll := { p with asked := 0, gap := p.least, next := min2 p.next (later now p.least) }
set_option maxRecDepth 100000 in
theorem poll_heard (p : Poll) (now : Int) (F : Hp) : Plain Try.prog F 24 [p.v, i64 now] (pair ((p.heard now).orNone (p.fault2 now)).v (i64 (p.fault2 now))) := by
  refine plain_vc (N := 27) (rv := [.cell 4 28, .tmp 5]) tbok mixed Try.func24 rfl rfl rfl rfl rfl ?_
  repeat (first
    | refine s_pure rfl rfl rfl ?_ | refine s_loc rfl rfl ?_ | refine s_gpure rfl rfl rfl rfl rfl ?_ | refine s_gloc rfl rfl rfl rfl ?_ | refine s_store rfl ?_ | refine s_pureG rfl rfl rfl rfl ?_
    | refine s_pick rfl rfl rfl ?_ | refine s_gpick rfl rfl rfl rfl ?_ | refine s_locG rfl rfl rfl ?_ | refine s_nil ?_ | refine s_seqn ?_ | refine s_seqr ?_ | refine s_seqe ?_ | refine s_seq ?_
    | refine s_region ?_ | refine s_block ?_ | refine s_blockn ?_ | refine s_blockr ?_ | refine s_blocke ?_ | refine s_blocko rfl ?_ | refine s_skip ?_ | refine s_ret ?_ | refine s_exit ?_
    | (refine s_box rfl rfl rfl rfl (fun b => ?_)) | (refine s_alloc rfl rfl rfl rfl (fun b => ?_)) | refine s_condt rfl ?_ | refine s_condf rfl ?_ | refine s_loopr ?_ | refine s_loope ?_
    | refine s_end rfl ?_ | refine s_endn rfl ?_)
  refine s_plain (i64 (p.fault2 now)) rfl rfl rfl bd144 rfl (poll_check2 p now F) ?_
  repeat (first
    | refine s_pure rfl rfl rfl ?_ | refine s_loc rfl rfl ?_ | refine s_gpure rfl rfl rfl rfl rfl ?_ | refine s_gloc rfl rfl rfl rfl ?_ | refine s_store rfl ?_ | refine s_pureG rfl rfl rfl rfl ?_
    | refine s_pick rfl rfl rfl ?_ | refine s_gpick rfl rfl rfl rfl ?_ | refine s_locG rfl rfl rfl ?_ | refine s_nil ?_ | refine s_seqn ?_ | refine s_seqr ?_ | refine s_seqe ?_ | refine s_seq ?_
    | refine s_region ?_ | refine s_block ?_ | refine s_blockn ?_ | refine s_blockr ?_ | refine s_blocke ?_ | refine s_blocko rfl ?_ | refine s_skip ?_ | refine s_ret ?_ | refine s_exit ?_
    | (refine s_box rfl rfl rfl rfl (fun b => ?_)) | (refine s_alloc rfl rfl rfl rfl (fun b => ?_)) | refine s_condt rfl ?_ | refine s_condf rfl ?_ | refine s_loopr ?_ | refine s_loope ?_
    | refine s_end rfl ?_ | refine s_endn rfl ?_)
  refine s_if _ rfl (fun h => ?_) (fun h => ?_)
  · repeat (first
    | refine s_pure rfl rfl rfl ?_ | refine s_loc rfl rfl ?_ | refine s_gpure rfl rfl rfl rfl rfl ?_ | refine s_gloc rfl rfl rfl rfl ?_ | refine s_store rfl ?_ | refine s_pureG rfl rfl rfl rfl ?_
    | refine s_pick rfl rfl rfl ?_ | refine s_gpick rfl rfl rfl rfl ?_ | refine s_locG rfl rfl rfl ?_ | refine s_nil ?_ | refine s_seqn ?_ | refine s_seqr ?_ | refine s_seqe ?_ | refine s_seq ?_
    | refine s_region ?_ | refine s_block ?_ | refine s_blockn ?_ | refine s_blockr ?_ | refine s_blocke ?_ | refine s_blocko rfl ?_ | refine s_skip ?_ | refine s_ret ?_ | refine s_exit ?_
    | (refine s_box rfl rfl rfl rfl (fun b => ?_)) | (refine s_alloc rfl rfl rfl rfl (fun b => ?_)) | refine s_condt rfl ?_ | refine s_condf rfl ?_ | refine s_loopr ?_ | refine s_loope ?_
    | refine s_end rfl ?_ | refine s_endn rfl ?_)
    have h' : p.fault2 now ≠ 0 := by simpa using h
    simp only [Poll.orNone, h', ne_eq, not_false_eq_true, if_true]
    rfl
  · repeat (first
    | refine s_pure rfl rfl rfl ?_ | refine s_loc rfl rfl ?_ | refine s_gpure rfl rfl rfl rfl rfl ?_ | refine s_gloc rfl rfl rfl rfl ?_ | refine s_store rfl ?_ | refine s_pureG rfl rfl rfl rfl ?_
    | refine s_pick rfl rfl rfl ?_ | refine s_gpick rfl rfl rfl rfl ?_ | refine s_locG rfl rfl rfl ?_ | refine s_nil ?_ | refine s_seqn ?_ | refine s_seqr ?_ | refine s_seqe ?_ | refine s_seq ?_
    | refine s_region ?_ | refine s_block ?_ | refine s_blockn ?_ | refine s_blockr ?_ | refine s_blocke ?_ | refine s_blocko rfl ?_ | refine s_skip ?_ | refine s_ret ?_ | refine s_exit ?_
    | (refine s_box rfl rfl rfl rfl (fun b => ?_)) | (refine s_alloc rfl rfl rfl rfl (fun b => ?_)) | refine s_condt rfl ?_ | refine s_condf rfl ?_ | refine s_loopr ?_ | refine s_loope ?_
    | refine s_end rfl ?_ | refine s_endn rfl ?_)
    have h' : p.fault2 now = 0 := by simpa using h
    refine s_regiont 8 (by kernel_rfl) rfl rfl ?_
    repeat (first
    | refine s_pure rfl rfl rfl ?_ | refine s_loc rfl rfl ?_ | refine s_gpure rfl rfl rfl rfl rfl ?_ | refine s_gloc rfl rfl rfl rfl ?_ | refine s_store rfl ?_ | refine s_pureG rfl rfl rfl rfl ?_
    | refine s_pick rfl rfl rfl ?_ | refine s_gpick rfl rfl rfl rfl ?_ | refine s_locG rfl rfl rfl ?_ | refine s_nil ?_ | refine s_seqn ?_ | refine s_seqr ?_ | refine s_seqe ?_ | refine s_seq ?_
    | refine s_region ?_ | refine s_block ?_ | refine s_blockn ?_ | refine s_blockr ?_ | refine s_blocke ?_ | refine s_blocko rfl ?_ | refine s_skip ?_ | refine s_ret ?_ | refine s_exit ?_
    | (refine s_box rfl rfl rfl rfl (fun b => ?_)) | (refine s_alloc rfl rfl rfl rfl (fun b => ?_)) | refine s_condt rfl ?_ | refine s_condf rfl ?_ | refine s_loopr ?_ | refine s_loope ?_
    | refine s_end rfl ?_ | refine s_endn rfl ?_)
    refine s_plain (i64 (later now p.least)) rfl rfl rfl bd145 rfl (poll_later now p.least F) ?_
    repeat (first
    | refine s_pure rfl rfl rfl ?_ | refine s_loc rfl rfl ?_ | refine s_gpure rfl rfl rfl rfl rfl ?_ | refine s_gloc rfl rfl rfl rfl ?_ | refine s_store rfl ?_ | refine s_pureG rfl rfl rfl rfl ?_
    | refine s_pick rfl rfl rfl ?_ | refine s_gpick rfl rfl rfl rfl ?_ | refine s_locG rfl rfl rfl ?_ | refine s_nil ?_ | refine s_seqn ?_ | refine s_seqr ?_ | refine s_seqe ?_ | refine s_seq ?_
    | refine s_region ?_ | refine s_block ?_ | refine s_blockn ?_ | refine s_blockr ?_ | refine s_blocke ?_ | refine s_blocko rfl ?_ | refine s_skip ?_ | refine s_ret ?_ | refine s_exit ?_
    | (refine s_box rfl rfl rfl rfl (fun b => ?_)) | (refine s_alloc rfl rfl rfl rfl (fun b => ?_)) | refine s_condt rfl ?_ | refine s_condf rfl ?_ | refine s_loopr ?_ | refine s_loope ?_
    | refine s_end rfl ?_ | refine s_endn rfl ?_)
    simp only [Poll.orNone, h', ne_eq, not_true_eq_false, if_false]
    rfl

def Poll.sent (p : Poll) (now : Int) : Poll := { p with asked := IntKind.i64.wrap (p.asked + 1), next := later now p.gap, gap := min2 (IntKind.i64.wrap (2 * p.gap)) p.most }
def Poll.sentE (p : Poll) (now : Int) : Int := if p.fault2 now ≠ 0 then p.fault2 now else if p.isDue now = false then 9 else if p.asked = 1000000 then 7 else 0
set_option maxRecDepth 100000 in
theorem poll_sent (p : Poll) (now : Int) (F : Hp) : Plain Try.prog F 23 [p.v, i64 now] (pair ((p.sent now).orNone (p.sentE now)).v (i64 (p.sentE now))) := by
  refine plain_vc (N := 45) (rv := [.cell 4 28, .tmp 5]) tbok mixed Try.func23 rfl rfl rfl rfl rfl ?_
  repeat (first
    | refine s_pure rfl rfl rfl ?_ | refine s_loc rfl rfl ?_ | refine s_gpure rfl rfl rfl rfl rfl ?_ | refine s_gloc rfl rfl rfl rfl ?_ | refine s_store rfl ?_ | refine s_pureG rfl rfl rfl rfl ?_
    | refine s_pick rfl rfl rfl ?_ | refine s_gpick rfl rfl rfl rfl ?_ | refine s_locG rfl rfl rfl ?_ | refine s_nil ?_ | refine s_seqn ?_ | refine s_seqr ?_ | refine s_seqe ?_ | refine s_seq ?_
    | refine s_region ?_ | refine s_block ?_ | refine s_blockn ?_ | refine s_blockr ?_ | refine s_blocke ?_ | refine s_blocko rfl ?_ | refine s_skip ?_ | refine s_ret ?_ | refine s_exit ?_
    | (refine s_box rfl rfl rfl rfl (fun b => ?_)) | (refine s_alloc rfl rfl rfl rfl (fun b => ?_)) | refine s_condt rfl ?_ | refine s_condf rfl ?_ | refine s_loopr ?_ | refine s_loope ?_
    | refine s_end rfl ?_ | refine s_endn rfl ?_)
  refine s_plain (pair (.bool (p.isDue now)) (i64 (p.fault2 now))) rfl rfl rfl bd22 rfl (poll_due p now F) ?_
  repeat (first
    | refine s_pure rfl rfl rfl ?_ | refine s_loc rfl rfl ?_ | refine s_gpure rfl rfl rfl rfl rfl ?_ | refine s_gloc rfl rfl rfl rfl ?_ | refine s_store rfl ?_ | refine s_pureG rfl rfl rfl rfl ?_
    | refine s_pick rfl rfl rfl ?_ | refine s_gpick rfl rfl rfl rfl ?_ | refine s_locG rfl rfl rfl ?_ | refine s_nil ?_ | refine s_seqn ?_ | refine s_seqr ?_ | refine s_seqe ?_ | refine s_seq ?_
    | refine s_region ?_ | refine s_block ?_ | refine s_blockn ?_ | refine s_blockr ?_ | refine s_blocke ?_ | refine s_blocko rfl ?_ | refine s_skip ?_ | refine s_ret ?_ | refine s_exit ?_
    | (refine s_box rfl rfl rfl rfl (fun b => ?_)) | (refine s_alloc rfl rfl rfl rfl (fun b => ?_)) | refine s_condt rfl ?_ | refine s_condf rfl ?_ | refine s_loopr ?_ | refine s_loope ?_
    | refine s_end rfl ?_ | refine s_endn rfl ?_)
  refine s_if _ rfl (fun h => ?_) (fun h => ?_)
  · repeat (first
    | refine s_pure rfl rfl rfl ?_ | refine s_loc rfl rfl ?_ | refine s_gpure rfl rfl rfl rfl rfl ?_ | refine s_gloc rfl rfl rfl rfl ?_ | refine s_store rfl ?_ | refine s_pureG rfl rfl rfl rfl ?_
    | refine s_pick rfl rfl rfl ?_ | refine s_gpick rfl rfl rfl rfl ?_ | refine s_locG rfl rfl rfl ?_ | refine s_nil ?_ | refine s_seqn ?_ | refine s_seqr ?_ | refine s_seqe ?_ | refine s_seq ?_
    | refine s_region ?_ | refine s_block ?_ | refine s_blockn ?_ | refine s_blockr ?_ | refine s_blocke ?_ | refine s_blocko rfl ?_ | refine s_skip ?_ | refine s_ret ?_ | refine s_exit ?_
    | (refine s_box rfl rfl rfl rfl (fun b => ?_)) | (refine s_alloc rfl rfl rfl rfl (fun b => ?_)) | refine s_condt rfl ?_ | refine s_condf rfl ?_ | refine s_loopr ?_ | refine s_loope ?_
    | refine s_end rfl ?_ | refine s_endn rfl ?_)
    have h' : p.fault2 now ≠ 0 := by simpa using h
    simp only [Poll.orNone, Poll.sentE, h', ne_eq, not_false_eq_true, if_true]
    rfl
  · repeat (first
    | refine s_pure rfl rfl rfl ?_ | refine s_loc rfl rfl ?_ | refine s_gpure rfl rfl rfl rfl rfl ?_ | refine s_gloc rfl rfl rfl rfl ?_ | refine s_store rfl ?_ | refine s_pureG rfl rfl rfl rfl ?_
    | refine s_pick rfl rfl rfl ?_ | refine s_gpick rfl rfl rfl rfl ?_ | refine s_locG rfl rfl rfl ?_ | refine s_nil ?_ | refine s_seqn ?_ | refine s_seqr ?_ | refine s_seqe ?_ | refine s_seq ?_
    | refine s_region ?_ | refine s_block ?_ | refine s_blockn ?_ | refine s_blockr ?_ | refine s_blocke ?_ | refine s_blocko rfl ?_ | refine s_skip ?_ | refine s_ret ?_ | refine s_exit ?_
    | (refine s_box rfl rfl rfl rfl (fun b => ?_)) | (refine s_alloc rfl rfl rfl rfl (fun b => ?_)) | refine s_condt rfl ?_ | refine s_condf rfl ?_ | refine s_loopr ?_ | refine s_loope ?_
    | refine s_end rfl ?_ | refine s_endn rfl ?_)
    have h' : p.fault2 now = 0 := by simpa using h
    refine s_if _ rfl (fun h2 => ?_) (fun h2 => ?_)
    · repeat (first
    | refine s_pure rfl rfl rfl ?_ | refine s_loc rfl rfl ?_ | refine s_gpure rfl rfl rfl rfl rfl ?_ | refine s_gloc rfl rfl rfl rfl ?_ | refine s_store rfl ?_ | refine s_pureG rfl rfl rfl rfl ?_
    | refine s_pick rfl rfl rfl ?_ | refine s_gpick rfl rfl rfl rfl ?_ | refine s_locG rfl rfl rfl ?_ | refine s_nil ?_ | refine s_seqn ?_ | refine s_seqr ?_ | refine s_seqe ?_ | refine s_seq ?_
    | refine s_region ?_ | refine s_block ?_ | refine s_blockn ?_ | refine s_blockr ?_ | refine s_blocke ?_ | refine s_blocko rfl ?_ | refine s_skip ?_ | refine s_ret ?_ | refine s_exit ?_
    | (refine s_box rfl rfl rfl rfl (fun b => ?_)) | (refine s_alloc rfl rfl rfl rfl (fun b => ?_)) | refine s_condt rfl ?_ | refine s_condf rfl ?_ | refine s_loopr ?_ | refine s_loope ?_
    | refine s_end rfl ?_ | refine s_endn rfl ?_)
      have h2' : p.isDue now = false := by simpa using h2
      simp only [Poll.orNone, Poll.sentE, h', h2', ne_eq, not_true_eq_false, if_true, if_false]
      rfl
    · repeat (first
    | refine s_pure rfl rfl rfl ?_ | refine s_loc rfl rfl ?_ | refine s_gpure rfl rfl rfl rfl rfl ?_ | refine s_gloc rfl rfl rfl rfl ?_ | refine s_store rfl ?_ | refine s_pureG rfl rfl rfl rfl ?_
    | refine s_pick rfl rfl rfl ?_ | refine s_gpick rfl rfl rfl rfl ?_ | refine s_locG rfl rfl rfl ?_ | refine s_nil ?_ | refine s_seqn ?_ | refine s_seqr ?_ | refine s_seqe ?_ | refine s_seq ?_
    | refine s_region ?_ | refine s_block ?_ | refine s_blockn ?_ | refine s_blockr ?_ | refine s_blocke ?_ | refine s_blocko rfl ?_ | refine s_skip ?_ | refine s_ret ?_ | refine s_exit ?_
    | (refine s_box rfl rfl rfl rfl (fun b => ?_)) | (refine s_alloc rfl rfl rfl rfl (fun b => ?_)) | refine s_condt rfl ?_ | refine s_condf rfl ?_ | refine s_loopr ?_ | refine s_loope ?_
    | refine s_end rfl ?_ | refine s_endn rfl ?_)
      have h2' : p.isDue now = true := by simpa using h2
      refine s_if _ rfl (fun h3 => ?_) (fun h3 => ?_)
      · repeat (first
    | refine s_pure rfl rfl rfl ?_ | refine s_loc rfl rfl ?_ | refine s_gpure rfl rfl rfl rfl rfl ?_ | refine s_gloc rfl rfl rfl rfl ?_ | refine s_store rfl ?_ | refine s_pureG rfl rfl rfl rfl ?_
    | refine s_pick rfl rfl rfl ?_ | refine s_gpick rfl rfl rfl rfl ?_ | refine s_locG rfl rfl rfl ?_ | refine s_nil ?_ | refine s_seqn ?_ | refine s_seqr ?_ | refine s_seqe ?_ | refine s_seq ?_
    | refine s_region ?_ | refine s_block ?_ | refine s_blockn ?_ | refine s_blockr ?_ | refine s_blocke ?_ | refine s_blocko rfl ?_ | refine s_skip ?_ | refine s_ret ?_ | refine s_exit ?_
    | (refine s_box rfl rfl rfl rfl (fun b => ?_)) | (refine s_alloc rfl rfl rfl rfl (fun b => ?_)) | refine s_condt rfl ?_ | refine s_condf rfl ?_ | refine s_loopr ?_ | refine s_loope ?_
    | refine s_end rfl ?_ | refine s_endn rfl ?_)
        have h3' : p.asked = 1000000 := by simpa using h3
        simp only [Poll.orNone, Poll.sentE, h', h2', h3', ne_eq, not_true_eq_false, if_true, if_false, Bool.true_eq_false]
        rfl
      · repeat (first
    | refine s_pure rfl rfl rfl ?_ | refine s_loc rfl rfl ?_ | refine s_gpure rfl rfl rfl rfl rfl ?_ | refine s_gloc rfl rfl rfl rfl ?_ | refine s_store rfl ?_ | refine s_pureG rfl rfl rfl rfl ?_
    | refine s_pick rfl rfl rfl ?_ | refine s_gpick rfl rfl rfl rfl ?_ | refine s_locG rfl rfl rfl ?_ | refine s_nil ?_ | refine s_seqn ?_ | refine s_seqr ?_ | refine s_seqe ?_ | refine s_seq ?_
    | refine s_region ?_ | refine s_block ?_ | refine s_blockn ?_ | refine s_blockr ?_ | refine s_blocke ?_ | refine s_blocko rfl ?_ | refine s_skip ?_ | refine s_ret ?_ | refine s_exit ?_
    | (refine s_box rfl rfl rfl rfl (fun b => ?_)) | (refine s_alloc rfl rfl rfl rfl (fun b => ?_)) | refine s_condt rfl ?_ | refine s_condf rfl ?_ | refine s_loopr ?_ | refine s_loope ?_
    | refine s_end rfl ?_ | refine s_endn rfl ?_)
        have h3' : ¬ p.asked = 1000000 := by simpa using h3
        refine s_plain (i64 (later now p.gap)) rfl rfl rfl bd145 rfl (poll_later now p.gap F) ?_
        repeat (first
    | refine s_pure rfl rfl rfl ?_ | refine s_loc rfl rfl ?_ | refine s_gpure rfl rfl rfl rfl rfl ?_ | refine s_gloc rfl rfl rfl rfl ?_ | refine s_store rfl ?_ | refine s_pureG rfl rfl rfl rfl ?_
    | refine s_pick rfl rfl rfl ?_ | refine s_gpick rfl rfl rfl rfl ?_ | refine s_locG rfl rfl rfl ?_ | refine s_nil ?_ | refine s_seqn ?_ | refine s_seqr ?_ | refine s_seqe ?_ | refine s_seq ?_
    | refine s_region ?_ | refine s_block ?_ | refine s_blockn ?_ | refine s_blockr ?_ | refine s_blocke ?_ | refine s_blocko rfl ?_ | refine s_skip ?_ | refine s_ret ?_ | refine s_exit ?_
    | (refine s_box rfl rfl rfl rfl (fun b => ?_)) | (refine s_alloc rfl rfl rfl rfl (fun b => ?_)) | refine s_condt rfl ?_ | refine s_condf rfl ?_ | refine s_loopr ?_ | refine s_loope ?_
    | refine s_end rfl ?_ | refine s_endn rfl ?_)
        simp only [Poll.orNone, Poll.sentE, h', h2', h3', ne_eq, not_true_eq_false, if_false, Bool.true_eq_false]
        rfl
/-! The reference. -/
set_option maxRecDepth 100000 in
theorem ref_fault (p : Poll) (F : Hp) : Plain Try.prog F 26 [p.v] (i64 p.fault) := by
  refine plain_vc (N := 62) (rv := [.tmp 2]) tbok mixed Try.func26 rfl rfl rfl rfl rfl ?_
  repeat (first
    | refine s_pure rfl rfl rfl ?_ | refine s_loc rfl rfl ?_ | refine s_gpure rfl rfl rfl rfl rfl ?_ | refine s_gloc rfl rfl rfl rfl ?_ | refine s_store rfl ?_ | refine s_pureG rfl rfl rfl rfl ?_
    | refine s_pick rfl rfl rfl ?_ | refine s_gpick rfl rfl rfl rfl ?_ | refine s_locG rfl rfl rfl ?_ | refine s_nil ?_ | refine s_seqn ?_ | refine s_seqr ?_ | refine s_seqe ?_ | refine s_seq ?_
    | refine s_region ?_ | refine s_block ?_ | refine s_blockn ?_ | refine s_blockr ?_ | refine s_blocke ?_ | refine s_blocko rfl ?_ | refine s_skip ?_ | refine s_ret ?_ | refine s_exit ?_
    | (refine s_box rfl rfl rfl rfl (fun b => ?_)) | (refine s_alloc rfl rfl rfl rfl (fun b => ?_)) | refine s_condt rfl ?_ | refine s_condf rfl ?_ | refine s_loopr ?_ | refine s_loope ?_
    | refine s_end rfl ?_ | refine s_endn rfl ?_)
  refine s_if _ rfl (fun h => ?_) (fun h => ?_)
  all_goals
    repeat (first
    | refine s_pure rfl rfl rfl ?_ | refine s_loc rfl rfl ?_ | refine s_gpure rfl rfl rfl rfl rfl ?_ | refine s_gloc rfl rfl rfl rfl ?_ | refine s_store rfl ?_ | refine s_pureG rfl rfl rfl rfl ?_
    | refine s_pick rfl rfl rfl ?_ | refine s_gpick rfl rfl rfl rfl ?_ | refine s_locG rfl rfl rfl ?_ | refine s_nil ?_ | refine s_seqn ?_ | refine s_seqr ?_ | refine s_seqe ?_ | refine s_seq ?_
    | refine s_region ?_ | refine s_block ?_ | refine s_blockn ?_ | refine s_blockr ?_ | refine s_blocke ?_ | refine s_blocko rfl ?_ | refine s_skip ?_ | refine s_ret ?_ | refine s_exit ?_
    | (refine s_box rfl rfl rfl rfl (fun b => ?_)) | (refine s_alloc rfl rfl rfl rfl (fun b => ?_)) | refine s_condt rfl ?_ | refine s_condf rfl ?_ | refine s_loopr ?_ | refine s_loope ?_
    | refine s_end rfl ?_ | refine s_endn rfl ?_)
    simp only [bpick_or] at h
    simp only [tupV, Poll.fault, Poll.bad, h]
    rfl
def Poll.refHeard (p : Poll) (now : Int) : Poll := { p with asked := 0, gap := p.least, next := min2 p.next (later now p.least) }
set_option maxRecDepth 100000 in
theorem ref_heard (p : Poll) (now : Int) (F : Hp) : Plain Try.prog F 28 [p.v, i64 now] (p.heard now).v := by
  refine plain_vc (N := 23) (rv := [.cell 4 28]) tbok mixed Try.func28 rfl rfl rfl rfl rfl ?_
  repeat (first
    | refine s_pure rfl rfl rfl ?_ | refine s_loc rfl rfl ?_ | refine s_gpure rfl rfl rfl rfl rfl ?_ | refine s_gloc rfl rfl rfl rfl ?_ | refine s_store rfl ?_ | refine s_pureG rfl rfl rfl rfl ?_
    | refine s_pick rfl rfl rfl ?_ | refine s_gpick rfl rfl rfl rfl ?_ | refine s_locG rfl rfl rfl ?_ | refine s_nil ?_ | refine s_seqn ?_ | refine s_seqr ?_ | refine s_seqe ?_ | refine s_seq ?_
    | refine s_region ?_ | refine s_block ?_ | refine s_blockn ?_ | refine s_blockr ?_ | refine s_blocke ?_ | refine s_blocko rfl ?_ | refine s_skip ?_ | refine s_ret ?_ | refine s_exit ?_
    | (refine s_box rfl rfl rfl rfl (fun b => ?_)) | (refine s_alloc rfl rfl rfl rfl (fun b => ?_)) | refine s_condt rfl ?_ | refine s_condf rfl ?_ | refine s_loopr ?_ | refine s_loope ?_
    | refine s_end rfl ?_ | refine s_endn rfl ?_)
  refine s_if _ rfl (fun h => ?_) (fun h => ?_)
  all_goals
    repeat (first
    | refine s_pure rfl rfl rfl ?_ | refine s_loc rfl rfl ?_ | refine s_gpure rfl rfl rfl rfl rfl ?_ | refine s_gloc rfl rfl rfl rfl ?_ | refine s_store rfl ?_ | refine s_pureG rfl rfl rfl rfl ?_
    | refine s_pick rfl rfl rfl ?_ | refine s_gpick rfl rfl rfl rfl ?_ | refine s_locG rfl rfl rfl ?_ | refine s_nil ?_ | refine s_seqn ?_ | refine s_seqr ?_ | refine s_seqe ?_ | refine s_seq ?_
    | refine s_region ?_ | refine s_block ?_ | refine s_blockn ?_ | refine s_blockr ?_ | refine s_blocke ?_ | refine s_blocko rfl ?_ | refine s_skip ?_ | refine s_ret ?_ | refine s_exit ?_
    | (refine s_box rfl rfl rfl rfl (fun b => ?_)) | (refine s_alloc rfl rfl rfl rfl (fun b => ?_)) | refine s_condt rfl ?_ | refine s_condf rfl ?_ | refine s_loopr ?_ | refine s_loope ?_
    | refine s_end rfl ?_ | refine s_endn rfl ?_)
    refine s_if _ rfl (fun h2 => ?_) (fun h2 => ?_)
    all_goals
      repeat (first
    | refine s_pure rfl rfl rfl ?_ | refine s_loc rfl rfl ?_ | refine s_gpure rfl rfl rfl rfl rfl ?_ | refine s_gloc rfl rfl rfl rfl ?_ | refine s_store rfl ?_ | refine s_pureG rfl rfl rfl rfl ?_
    | refine s_pick rfl rfl rfl ?_ | refine s_gpick rfl rfl rfl rfl ?_ | refine s_locG rfl rfl rfl ?_ | refine s_nil ?_ | refine s_seqn ?_ | refine s_seqr ?_ | refine s_seqe ?_ | refine s_seq ?_
    | refine s_region ?_ | refine s_block ?_ | refine s_blockn ?_ | refine s_blockr ?_ | refine s_blocke ?_ | refine s_blocko rfl ?_ | refine s_skip ?_ | refine s_ret ?_ | refine s_exit ?_
    | (refine s_box rfl rfl rfl rfl (fun b => ?_)) | (refine s_alloc rfl rfl rfl rfl (fun b => ?_)) | refine s_condt rfl ?_ | refine s_condf rfl ?_ | refine s_loopr ?_ | refine s_loope ?_
    | refine s_end rfl ?_ | refine s_endn rfl ?_)
      simp only [decide_eq_true_eq, decide_eq_false_iff_not] at h h2
      simp only [Poll.heard, later, min2, h, h2, if_true, if_false]
      rfl
theorem wrap_i64 {n : Int} (h1 : -9223372036854775808 ≤ n) (h2 : n ≤ 9223372036854775807) : IntKind.i64.wrap n = n := by
  exact IntWalk.i64_in n ⟨h1, h2⟩
/-- So many steps, none beyond the last moment. -/
def steps (now : Int) (k : Nat) : Int := if 1000000000 ≤ now then now else if 1000000000 ≤ now + k then 1000000000 else now + k
theorem steps_succ (now : Int) (k : Nat) : steps now (k + 1) = if steps now k < 1000000000 then steps now k + 1 else steps now k := by
  unfold steps
  repeat' split
  all_goals omega
theorem steps_le (now : Int) (k : Nat) (h : 0 ≤ now ∧ now ≤ 1000000000) : 0 ≤ steps now k ∧ steps now k ≤ 1000000000 := by
  unfold steps
  repeat' split
  all_goals omega
theorem steps_zero (now : Int) : steps now 0 = now := by
  unfold steps
  repeat' split
  all_goals omega
def Poll.refSent (p : Poll) (now : Int) : Poll := { p with asked := IntKind.i64.wrap (p.asked + 1), next := steps now p.gap.toNat, gap := if p.most < IntKind.i64.wrap (p.gap + p.gap) then p.most else IntKind.i64.wrap (p.gap + p.gap) }
set_option maxRecDepth 100000 in
theorem ref_sent (p : Poll) (now : Int) (F : Hp) (hg : p.gap ≤ 1000000) (hn : 0 ≤ now ∧ now ≤ 1000000000) : Plain Try.prog F 29 [p.v, i64 now] (p.refSent now).v := by
  refine plain_vc (N := 38) (rv := [.cell 4 28]) tbok mixed Try.func29 rfl rfl rfl rfl rfl ?_
  repeat (first
    | refine s_pure rfl rfl rfl ?_ | refine s_loc rfl rfl ?_ | refine s_gpure rfl rfl rfl rfl rfl ?_ | refine s_gloc rfl rfl rfl rfl ?_ | refine s_store rfl ?_ | refine s_pureG rfl rfl rfl rfl ?_
    | refine s_pick rfl rfl rfl ?_ | refine s_gpick rfl rfl rfl rfl ?_ | refine s_locG rfl rfl rfl ?_ | refine s_nil ?_ | refine s_seqn ?_ | refine s_seqr ?_ | refine s_seqe ?_ | refine s_seq ?_
    | refine s_region ?_ | refine s_block ?_ | refine s_blockn ?_ | refine s_blockr ?_ | refine s_blocke ?_ | refine s_blocko rfl ?_ | refine s_skip ?_ | refine s_ret ?_ | refine s_exit ?_
    | (refine s_box rfl rfl rfl rfl (fun b => ?_)) | (refine s_alloc rfl rfl rfl rfl (fun b => ?_)) | refine s_condt rfl ?_ | refine s_condf rfl ?_ | refine s_loopr ?_ | refine s_loope ?_
    | refine s_end rfl ?_ | refine s_endn rfl ?_)
  rename_i b0
  refine s_loop (T := fun k : { k : Nat // (k : Int) ≤ p.gap ∨ k = 0 } => ⟨[(2, .loc 0 0), (4, .loc 1 0), (12, .v (i64 p.gap)), (13, .v (i64 (k.1 : Nat)))], F,
    [(1, ⟨some b, [.v (i64 0), .v (i64 0), .v (i64 0), .v (i64 0), .v (i64 0), .v (i64 0)], 28, 6⟩), (0, ⟨some b0, [.v (i64 p.least), .v (i64 p.most), .v (i64 p.lost), .v (i64 p.gap), .v (i64 (steps now k.1)), .v (i64 (IntKind.i64.wrap (p.asked + 1)))], 28, 6⟩)], 2⟩)
    (fun k => p.gap.toNat - k.1) ⟨0, .inr rfl⟩ ?_ ?_
  · refine VS.keep [2, 4, 12, 13] rfl ?_
    simp only [steps_zero now]
    rfl
  · rintro ⟨k, hk⟩
    have hs := steps_le now k hn
    repeat (first
    | refine s_pure rfl rfl rfl ?_ | refine s_loc rfl rfl ?_ | refine s_gpure rfl rfl rfl rfl rfl ?_ | refine s_gloc rfl rfl rfl rfl ?_ | refine s_store rfl ?_ | refine s_pureG rfl rfl rfl rfl ?_
    | refine s_pick rfl rfl rfl ?_ | refine s_gpick rfl rfl rfl rfl ?_ | refine s_locG rfl rfl rfl ?_ | refine s_nil ?_ | refine s_seqn ?_ | refine s_seqr ?_ | refine s_seqe ?_ | refine s_seq ?_
    | refine s_region ?_ | refine s_block ?_ | refine s_blockn ?_ | refine s_blockr ?_ | refine s_blocke ?_ | refine s_blocko rfl ?_ | refine s_skip ?_ | refine s_ret ?_ | refine s_exit ?_
    | (refine s_box rfl rfl rfl rfl (fun b => ?_)) | (refine s_alloc rfl rfl rfl rfl (fun b => ?_)) | refine s_condt rfl ?_ | refine s_condf rfl ?_ | refine s_loopr ?_ | refine s_loope ?_
    | refine s_end rfl ?_ | refine s_endn rfl ?_)
    refine s_if _ rfl (fun h => ?_) (fun h => ?_)
    · simp only [decide_eq_true_eq] at h
      repeat (first
    | refine s_pure rfl rfl rfl ?_ | refine s_loc rfl rfl ?_ | refine s_gpure rfl rfl rfl rfl rfl ?_ | refine s_gloc rfl rfl rfl rfl ?_ | refine s_store rfl ?_ | refine s_pureG rfl rfl rfl rfl ?_
    | refine s_pick rfl rfl rfl ?_ | refine s_gpick rfl rfl rfl rfl ?_ | refine s_locG rfl rfl rfl ?_ | refine s_nil ?_ | refine s_seqn ?_ | refine s_seqr ?_ | refine s_seqe ?_ | refine s_seq ?_
    | refine s_region ?_ | refine s_block ?_ | refine s_blockn ?_ | refine s_blockr ?_ | refine s_blocke ?_ | refine s_blocko rfl ?_ | refine s_skip ?_ | refine s_ret ?_ | refine s_exit ?_
    | (refine s_box rfl rfl rfl rfl (fun b => ?_)) | (refine s_alloc rfl rfl rfl rfl (fun b => ?_)) | refine s_condt rfl ?_ | refine s_condf rfl ?_ | refine s_loopr ?_ | refine s_loope ?_
    | refine s_end rfl ?_ | refine s_endn rfl ?_)
      refine s_if _ rfl (fun h2 => ?_) (fun h2 => ?_)
      all_goals
        simp only [decide_eq_true_eq, decide_eq_false_iff_not] at h2
        repeat (first
    | refine s_pure rfl rfl rfl ?_ | refine s_loc rfl rfl ?_ | refine s_gpure rfl rfl rfl rfl rfl ?_ | refine s_gloc rfl rfl rfl rfl ?_ | refine s_store rfl ?_ | refine s_pureG rfl rfl rfl rfl ?_
    | refine s_pick rfl rfl rfl ?_ | refine s_gpick rfl rfl rfl rfl ?_ | refine s_locG rfl rfl rfl ?_ | refine s_nil ?_ | refine s_seqn ?_ | refine s_seqr ?_ | refine s_seqe ?_ | refine s_seq ?_
    | refine s_region ?_ | refine s_block ?_ | refine s_blockn ?_ | refine s_blockr ?_ | refine s_blocke ?_ | refine s_blocko rfl ?_ | refine s_skip ?_ | refine s_ret ?_ | refine s_exit ?_
    | (refine s_box rfl rfl rfl rfl (fun b => ?_)) | (refine s_alloc rfl rfl rfl rfl (fun b => ?_)) | refine s_condt rfl ?_ | refine s_condf rfl ?_ | refine s_loopr ?_ | refine s_loope ?_
    | refine s_end rfl ?_ | refine s_endn rfl ?_)
        refine s_loopn ⟨k + 1, .inl (by omega)⟩ (by simp only; omega) (VS.keep [2, 4, 12, 13] rfl ?_)
        have e := steps_succ now k
        rw [wrap_i64 (n := (k : Int) + 1) (by omega) (by omega)]
      · rw [if_pos h2] at e
        rw [wrap_i64 (n := steps now k + 1) (by omega) (by omega), ← e]
        rfl
      · rw [if_neg h2] at e
        rw [← e]
        rfl
    · simp only [decide_eq_false_iff_not] at h
      repeat (first
    | refine s_pure rfl rfl rfl ?_ | refine s_loc rfl rfl ?_ | refine s_gpure rfl rfl rfl rfl rfl ?_ | refine s_gloc rfl rfl rfl rfl ?_ | refine s_store rfl ?_ | refine s_pureG rfl rfl rfl rfl ?_
    | refine s_pick rfl rfl rfl ?_ | refine s_gpick rfl rfl rfl rfl ?_ | refine s_locG rfl rfl rfl ?_ | refine s_nil ?_ | refine s_seqn ?_ | refine s_seqr ?_ | refine s_seqe ?_ | refine s_seq ?_
    | refine s_region ?_ | refine s_block ?_ | refine s_blockn ?_ | refine s_blockr ?_ | refine s_blocke ?_ | refine s_blocko rfl ?_ | refine s_skip ?_ | refine s_ret ?_ | refine s_exit ?_
    | (refine s_box rfl rfl rfl rfl (fun b => ?_)) | (refine s_alloc rfl rfl rfl rfl (fun b => ?_)) | refine s_condt rfl ?_ | refine s_condf rfl ?_ | refine s_loopr ?_ | refine s_loope ?_
    | refine s_end rfl ?_ | refine s_endn rfl ?_)
      have hkg : k = p.gap.toNat := by omega
      subst hkg
      refine s_if _ rfl (fun h2 => ?_) (fun h2 => ?_)
      all_goals
        repeat (first
    | refine s_pure rfl rfl rfl ?_ | refine s_loc rfl rfl ?_ | refine s_gpure rfl rfl rfl rfl rfl ?_ | refine s_gloc rfl rfl rfl rfl ?_ | refine s_store rfl ?_ | refine s_pureG rfl rfl rfl rfl ?_
    | refine s_pick rfl rfl rfl ?_ | refine s_gpick rfl rfl rfl rfl ?_ | refine s_locG rfl rfl rfl ?_ | refine s_nil ?_ | refine s_seqn ?_ | refine s_seqr ?_ | refine s_seqe ?_ | refine s_seq ?_
    | refine s_region ?_ | refine s_block ?_ | refine s_blockn ?_ | refine s_blockr ?_ | refine s_blocke ?_ | refine s_blocko rfl ?_ | refine s_skip ?_ | refine s_ret ?_ | refine s_exit ?_
    | (refine s_box rfl rfl rfl rfl (fun b => ?_)) | (refine s_alloc rfl rfl rfl rfl (fun b => ?_)) | refine s_condt rfl ?_ | refine s_condf rfl ?_ | refine s_loopr ?_ | refine s_loope ?_
    | refine s_end rfl ?_ | refine s_endn rfl ?_)
        simp only [decide_eq_true_eq, decide_eq_false_iff_not] at h2
        simp only [Poll.refSent, h2, if_true, if_false]
        rfl
end Go.Proofs.Ytmkbdpdbjafpkaa
