/-
Asks, plainly; what is wrong with a name and a value: the walks.
-/
import Derived.Test.YthkkgphjjmhglaaGreatDoorIdxFunc
import Derived.Test.YthkkgphjjmhglaaGreatDoorSetRows2
/-!
Asks, plainly; what is wrong with a name and a value: the walks.
-/
namespace Go.Proofs.YthkkgphjjmhglaaGreatDoor
set_option linter.unusedVariables false
set_option linter.unusedSimpArgs false
open Go.TR
/-- An ask. -/
structure Ask where
  name : List UInt8
  value : List UInt8
  n : Nat
  tag : Nat
deriving DecidableEq
@[reducible] def Ask.cells (a : Ask) : List Value := [S a.name, S a.value, u64 (a.n : Nat), u64 (a.tag : Nat)]
@[reducible] def Ask.v (a : Ask) : Value := .agg #[S a.name, S a.value, u64 (a.n : Nat), u64 (a.tag : Nat)]
def Ask.none : Ask := ⟨[], [], 0, 0⟩
structure Ask.wf (a : Ask) : Prop where
  name : a.name.length ≤ 4611686018427387904
  value : a.value.length ≤ 4611686018427387904
  n : a.n < 18446744073709551616
  tag : a.tag < 18446744073709551616
def askFault (name value : List UInt8) : Int := if goodName name = true then (if 20 < value.length then 2 else 0) else 3
theorem askFault_zero {name value : List UInt8} (h : askFault name value = 0) : goodName name = true ∧ value.length ≤ 20 := by
  unfold askFault at h
  split at h
  · rename_i h1
    split at h
    · cases h
    · exact ⟨h1, by omega⟩
  · cases h
theorem goodName_len {s : List UInt8} (h : goodName s = true) : s.length ≤ 12 := by
  unfold goodName at h
  simp at h
  exact h.1.2
attribute [local irreducible] vc vcOps seqK blockK loopK retK retG retI loopV Plain CallOK CallIn bodied VS vcAny dropG backK brK loopPK IntKind.wrap
set_option maxRecDepth 100000
theorem askfault_ok (name value : List UInt8) (hn : name.length ≤ 4611686018427387904) (F : Hp) : Plain Tryz.prog F 32 [S name, S value] (i64 (askFault name value)) := by
  refine plain_vc (N := 11) (rv := [.tmp 4]) tbok mixed Tryz.func32 rfl rfl rfl rfl rfl ?_
  (refine run ?_; repeat intro b)
  refine s_plain _ rfl rfl rfl bd15 rfl (goodname_ok name hn F) ?_
  (refine run ?_; repeat intro b)
  refine s_if (!goodName name) rfl (fun h => ?_) (fun h => ?_)
  · have h2 : ¬ goodName name = true := by simpa using h
    (refine run ?_; repeat intro b)
    simp only [tupV, askFault, if_neg h2]
  · have h2 : goodName name = true := by simpa using h
    (refine run ?_; repeat intro b)
    refine s_if (decide (20 < value.length)) ?_ (fun h3 => ?_) (fun h3 => ?_)
    · refine congrArg (fun b => some (EV.v (.bool b))) ?_
      rw [decide_eq_decide, bl_S]; omega
    · have h4 : 20 < value.length := by simpa using h3
      (refine run ?_; repeat intro b)
      simp only [tupV, askFault, if_pos h2, if_pos h4]
    · have h4 : ¬ 20 < value.length := by simpa using h3
      (refine run ?_; repeat intro b)
      simp only [tupV, askFault, if_pos h2, if_neg h4]
end Go.Proofs.YthkkgphjjmhglaaGreatDoor
/-!
Queues, plainly.
-/
namespace Go.Proofs.YthkkgphjjmhglaaGreatDoor
set_option linter.unusedVariables false
set_option linter.unusedSimpArgs false
open Go.TR
structure Queue where
  most : Int
  wait : List Ask
deriving DecidableEq
def Queue.nil : Queue := ⟨0, []⟩
/-- What is wrong with one of some asks: the first that is wrong. -/
def asksFault : List Ask → Int
  | [] => 0
  | a :: l => if askFault a.name a.value = 0 then asksFault l else askFault a.name a.value
def queueFault (q : Queue) : Int := if q.most < 1 ∨ 30 < q.most then 4 else if q.most < (q.wait.length : Int) then 7 else asksFault q.wait
/-- A queue's value. -/
@[reducible] def qv (most : Int) (p : Option Addr) (n c : Nat) : Value := .agg #[i64 most, .slice p n c]
theorem ask_cells (a : Ask) : a.cells.length = 4 := rfl
theorem asksFault_drop {l : List Ask} {j : Nat} (hj : j < l.length) : asksFault (l.drop j) = if askFault l[j].name l[j].value = 0 then asksFault (l.drop (j + 1)) else askFault l[j].name l[j].value := by
  rw [List.drop_eq_getElem_cons hj]
  rfl
structure Queue.wf (q : Queue) : Prop where
  wait : ∀ a ∈ q.wait, a.wf
  len : q.wait.length ≤ 4611686018427387904
end Go.Proofs.YthkkgphjjmhglaaGreatDoor
/-!
Package queue: right, Check, Wait; the reference's QueueFault, SameAsks, SameQueue: the walks.
-/
namespace Go.Proofs.YthkkgphjjmhglaaGreatDoor
set_option linter.unusedVariables false
set_option linter.unusedSimpArgs false
open Go.TR
attribute [local irreducible] vc vcOps seqK blockK loopK retK retG retI loopV Plain CallOK CallIn bodied VS vcAny dropG backK brK loopPK IntKind.wrap
set_option maxRecDepth 100000
theorem queueright_ok (a : Ask) (hw : a.wf) (F : Hp) : Plain Tryz.prog F 110 [a.v] (i64 (askFault a.name a.value)) := by
  have hn := hw.name
  refine plain_vc (N := 13) (rv := [.tmp 2]) tbok mixed Tryz.func110 rfl rfl rfl rfl rfl ?_
  (refine run ?_; repeat intro b)
  refine s_plain _ rfl rfl rfl bd129 rfl (name_ok a.name hn F) ?_
  (refine run ?_; repeat intro b)
  refine s_if (!goodName a.name) rfl (fun h => ?_) (fun h => ?_)
  · have h2 : ¬ goodName a.name = true := by simpa using h
    (refine run ?_; repeat intro b)
    simp only [tupV, askFault, if_neg h2]
  · have h2 : goodName a.name = true := by simpa using h
    (refine run ?_; repeat intro b)
    refine s_if (decide (20 < a.value.length)) ?_ (fun h3 => ?_) (fun h3 => ?_)
    · refine congrArg (fun b => some (EV.v (.bool b))) ?_
      rw [decide_eq_decide, bl_S]; omega
    · have h4 : 20 < a.value.length := by simpa using h3
      (refine run ?_; repeat intro b)
      simp only [tupV, askFault, if_pos h2, if_pos h4]
    · have h4 : ¬ 20 < a.value.length := by simpa using h3
      (refine run ?_; repeat intro b)
      simp only [tupV, askFault, if_pos h2, if_neg h4]
set_option maxHeartbeats 1000000 in
theorem queuecheck_ok (q : Queue) (hw : q.wf) {p : Option Addr} {c : Nat} {F : Hp} (hf : Frow F p (q.wait.flatMap Ask.cells)) : Plain Tryz.prog F 72 [qv q.most p q.wait.length c] (i64 (queueFault q)) := by
  obtain ⟨most, l⟩ := q
  have hl := hw.len
  simp only at hf hl ⊢
  refine plain_vc (N := 35) (rv := [.tmp 2]) tbok mixed Tryz.func72 rfl rfl rfl rfl rfl ?_
  (refine run ?_; repeat intro b)
  refine s_if (decide (most < 1 ∨ 30 < most)) ?_ (fun h => ?_) (fun h => ?_)
  · refine congrArg (fun b => some (EV.v (.bool b))) ?_
    rw [bpick_or, Bool.decide_or]
  · have h1 : queueFault ⟨most, l⟩ = 4 := by unfold queueFault; rw [if_pos (of_decide_eq_true h)]
    (refine run ?_; repeat intro b)
    rw [h1]
    rfl
  · (refine run ?_; repeat intro b)
    refine s_if (decide (most < (l.length : Int))) rfl (fun h2 => ?_) (fun h2 => ?_)
    · have h1 : queueFault ⟨most, l⟩ = 7 := by unfold queueFault; rw [if_neg (of_decide_eq_false h), if_pos (of_decide_eq_true h2)]
      (refine run ?_; repeat intro b)
      rw [h1]
      rfl
    · have h1 : queueFault ⟨most, l⟩ = asksFault l := by unfold queueFault; rw [if_neg (of_decide_eq_false h), if_neg (of_decide_eq_false h2)]
      rw [h1]
      (refine run ?_; repeat intro b)
      refine s_loopP (fun j : Nat => j ≤ l.length ∧ asksFault l = asksFault (l.drop j)) (fun j => ⟨[(23, .v (.slice p l.length c)), (24, .v (i64 (l.length : Nat))), (25, .v (i64 (j : Nat)))], F, [], 1⟩) (fun j => l.length - j) 0 ⟨Nat.zero_le _, rfl⟩ (VS.dropR [0] rfl (VS.keepN [23, 24, 25] rfl rfl)) ?_
      rintro j ⟨hj, hg⟩
      by_cases hlt : j < l.length
      · obtain ⟨ho1, ho2⟩ := frow_agg ask_cells (by decide) hf j hlt
        have hwa := hw.wait l[j] (List.getElem_mem hlt)
        rw [asksFault_drop hlt] at hg
        have hstep : l.drop j = l[j] :: l.drop (j + 1) := List.drop_eq_getElem_cons hlt
        generalize l[j] = a at hg ho2 hwa
        (refine run ?_; repeat intro b)
        refine s_if true (by rw [← decide_eq_true (p := ((j : Nat) : Int) < ((l.length : Nat) : Int)) (by omega)]; rfl) (fun _ => ?_) (fun h => by cases h)
        (refine run ?_; repeat intro b)
        refine s_pureO rfl rfl rfl ⟨by omega, by omega, frow_some hf (j := j * 4) (by rw [flat_len ask_cells]; omega)⟩ ?_
        refine s_loadA a.cells rfl rfl rfl rfl rfl (by rw [Int.toNat_natCast]; exact ho1) (by rw [Int.toNat_natCast]; exact ho2) ?_
        (refine run ?_; repeat intro b)
        refine s_plain _ rfl rfl rfl bd110 rfl (queueright_ok a hwa F) ?_
        (refine run ?_; repeat intro b)
        refine s_if (decide (askFault a.name a.value ≠ 0)) ?_ (fun h3 => ?_) (fun h3 => ?_)
        · refine congrArg (fun b => some (EV.v (.bool b))) ?_
          rw [Bool.eq_iff_iff]
          simp
        · rw [if_neg (of_decide_eq_true h3)] at hg
          (refine run ?_; repeat intro b)
          rw [hg]
          rfl
        · rw [if_pos (by simpa using h3)] at hg
          (refine run ?_; repeat intro b)
          rw [wrap_succ (by omega)]
          exact s_loopPc (j + 1) [1] [23, 24, 25] ⟨hlt, hg⟩ (by omega) rfl rfl rfl rfl trivial rfl
      · have hge : j = l.length := by omega
        subst hge
        rw [List.drop_length] at hg
        (refine run ?_; repeat intro b)
        refine s_if false (by rw [← decide_eq_false (p := ((l.length : Nat) : Int) < ((l.length : Nat) : Int)) (by omega)]; rfl) (fun h => by cases h) (fun _ => ?_)
        (refine run ?_; repeat intro b)
        rw [hg]
        rfl
set_option maxHeartbeats 1000000 in
theorem refqueue_ok (q : Queue) (hw : q.wf) {p : Option Addr} {c : Nat} {F : Hp} (hf : Frow F p (q.wait.flatMap Ask.cells)) : Plain Tryz.prog F 49 [qv q.most p q.wait.length c] (i64 (queueFault q)) := by
  obtain ⟨most, l⟩ := q
  have hl := hw.len
  simp only at hf hl ⊢
  refine plain_vc (N := 36) (rv := [.tmp 2]) tbok mixed Tryz.func49 rfl rfl rfl rfl rfl ?_
  (refine run ?_; repeat intro b)
  refine s_if (decide (most < 1 ∨ 30 < most)) ?_ (fun h => ?_) (fun h => ?_)
  · refine congrArg (fun b => some (EV.v (.bool b))) ?_
    rw [bpick_or, Bool.decide_or]
  · have h1 : queueFault ⟨most, l⟩ = 4 := by unfold queueFault; rw [if_pos (of_decide_eq_true h)]
    (refine run ?_; repeat intro b)
    rw [h1]
    rfl
  · (refine run ?_; repeat intro b)
    refine s_if (decide (most < (l.length : Int))) rfl (fun h2 => ?_) (fun h2 => ?_)
    · have h1 : queueFault ⟨most, l⟩ = 7 := by unfold queueFault; rw [if_neg (of_decide_eq_false h), if_pos (of_decide_eq_true h2)]
      (refine run ?_; repeat intro b)
      rw [h1]
      rfl
    · have h1 : queueFault ⟨most, l⟩ = asksFault l := by unfold queueFault; rw [if_neg (of_decide_eq_false h), if_neg (of_decide_eq_false h2)]
      rw [h1]
      (refine run ?_; repeat intro b)
      refine s_loopP (fun j : Nat => j ≤ l.length ∧ asksFault l = asksFault (l.drop j)) (fun j => ⟨[(21, .v (.slice p l.length c)), (22, .v (i64 (l.length : Nat))), (23, .v (i64 (j : Nat)))], F, [], 1⟩) (fun j => l.length - j) 0 ⟨Nat.zero_le _, rfl⟩ (VS.dropR [0] rfl (VS.keepN [21, 22, 23] rfl rfl)) ?_
      rintro j ⟨hj, hg⟩
      by_cases hlt : j < l.length
      · obtain ⟨ho1, ho2⟩ := frow_agg ask_cells (by decide) hf j hlt
        have hwa := hw.wait l[j] (List.getElem_mem hlt)
        rw [asksFault_drop hlt] at hg
        generalize l[j] = a at hg ho2 hwa
        (refine run ?_; repeat intro b)
        refine s_if true (by rw [← decide_eq_true (p := ((j : Nat) : Int) < ((l.length : Nat) : Int)) (by omega)]; rfl) (fun _ => ?_) (fun h => by cases h)
        (refine run ?_; repeat intro b)
        refine s_pureO rfl rfl rfl ⟨by omega, by omega, frow_some hf (j := j * 4) (by rw [flat_len ask_cells]; omega)⟩ ?_
        refine s_loadA a.cells rfl rfl rfl rfl rfl (by rw [Int.toNat_natCast]; exact ho1) (by rw [Int.toNat_natCast]; exact ho2) ?_
        (refine run ?_; repeat intro b)
        refine s_plain _ rfl rfl rfl bd32 rfl (askfault_ok a.name a.value hwa.name F) ?_
        (refine run ?_; repeat intro b)
        refine s_if (decide (askFault a.name a.value ≠ 0)) ?_ (fun h3 => ?_) (fun h3 => ?_)
        · refine congrArg (fun b => some (EV.v (.bool b))) ?_
          rw [Bool.eq_iff_iff]
          simp
        · rw [if_neg (of_decide_eq_true h3)] at hg
          (refine run ?_; repeat intro b)
          rw [hg]
          rfl
        · rw [if_pos (by simpa using h3)] at hg
          (refine run ?_; repeat intro b)
          rw [wrap_succ (by omega)]
          exact s_loopPc (j + 1) [1] [21, 22, 23] ⟨hlt, hg⟩ (by omega) rfl rfl rfl rfl trivial rfl
      · have hge : j = l.length := by omega
        subst hge
        rw [List.drop_length] at hg
        (refine run ?_; repeat intro b)
        refine s_if false (by rw [← decide_eq_false (p := ((l.length : Nat) : Int) < ((l.length : Nat) : Int)) (by omega)]; rfl) (fun h => by cases h) (fun _ => ?_)
        (refine run ?_; repeat intro b)
        rw [hg]
        rfl
def waitBad (ahead batch every : Int) : Bool := decide (ahead < 0) || decide (30 < ahead) || decide (batch < 1) || decide (30 < batch) || decide (every < 1) || decide (1000 < every)
def waitE (ahead batch every : Int) : Int := if waitBad ahead batch every = true then 4 else 0
def waitN (ahead batch every : Int) : Int := if waitBad ahead batch every = true then 0 else (ahead / batch + 1) * every
end Go.Proofs.YthkkgphjjmhglaaGreatDoor
