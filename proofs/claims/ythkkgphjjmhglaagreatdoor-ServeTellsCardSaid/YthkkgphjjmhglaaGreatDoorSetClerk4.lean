/-
Package clerk: copied: the walk.
-/
import Derived.Test.YthkkgphjjmhglaaGreatDoorSetClerk1
import Derived.Test.YthkkgphjjmhglaaGreatDoorSetBits
import Derived.Test.YthkkgphjjmhglaaGreatDoorChain3
import Derived.Test.YthkkgphjjmhglaaGreatDoorSetFwJ
import Derived.Test.YthkkgphjjmhglaaGreatDoorSetPath
import Derived.Test.YthkkgphjjmhglaaGreatDoorClerkNames
/-!
Package clerk: copied: the walk.
-/
namespace Go.Proofs.YthkkgphjjmhglaaGreatDoor
set_option linter.unusedVariables false
set_option linter.unusedSimpArgs false
open Go.TR
/-- Small enough to be copied. -/
structure Small (c : Clerk) : Prop where
  wait : c.queue.wait.length ≤ 30
  heads : c.heads.length ≤ 40
  books : c.books.length ≤ 40
  each : ∀ l ∈ c.books, l.length ≤ 24
theorem Good.small {c : Clerk} (h : Good c) : Small c := by
  obtain ⟨q1, q2, q3, _⟩ := queue_zero h.queue
  obtain ⟨l1, l2, l3⟩ := h.lens
  exact ⟨by omega, l3, by omega, fun l hl => (bookFault_zero (h.book l hl)).1⟩
attribute [local irreducible] vc vcOps seqK blockK loopK retK retG retI loopV Plain CallOK CallIn bodied VS vcAny dropG backK brK loopPK IntKind.wrap
attribute [local irreducible] bookFault lvlN rootsF lastB lastH
set_option maxRecDepth 100000
set_option maxHeartbeats 4000000
end Go.Proofs.YthkkgphjjmhglaaGreatDoor
/-!
Package clerk: Check: the walk.
-/
namespace Go.Proofs.YthkkgphjjmhglaaGreatDoor
set_option linter.unusedVariables false
set_option linter.unusedSimpArgs false
open Go.TR
theorem chain_pos {l : List Head} (h : (chainF l).1 = 0) : 0 < l.length := (chainF_zero h).1
theorem booksF_zero {c : Clerk} (h : booksF c = 0) : formB c = false ∧ rootsF c.heads c.books = 0 := by
  unfold booksF at h
  cases hf : formB c with
  | true => rw [hf] at h; cases h
  | false => rw [hf] at h; exact ⟨rfl, h⟩
theorem clerkF_names {c : Clerk} (h1 : queueFault c.queue = 0) (h2 : spanB c = false) (h3 : (chainF c.heads).1 = 0) (h4 : booksF c = 0) : clerkF c = if 24 < namesN c [] then 7 else 0 := by
  unfold clerkF
  rw [if_neg (by rw [h1]; decide), h2, if_neg (by decide), if_neg (by rw [h3]; decide), if_neg (by rw [h4]; decide)]
theorem pre_small {c : Clerk} (h1 : queueFault c.queue = 0) (h3 : (chainF c.heads).1 = 0) (h4 : booksF c = 0) : Small c ∧ 0 < c.books.length := by
  obtain ⟨f1, f2⟩ := booksF_zero h4
  obtain ⟨q1, q2, q3, _⟩ := queue_zero h1
  obtain ⟨c1, c2, _⟩ := chainF_zero h3
  have e : c.books.length = c.heads.length := by
    unfold formB at f1
    simp only [Bool.or_eq_false_iff, decide_eq_false_iff_not, ne_eq, Classical.not_not] at f1
    exact f1.1.2
  refine ⟨⟨by omega, c2, by omega, fun l hl => (bookFault_zero (rootsF_zero (by omega) f2 l hl)).1⟩, by omega⟩
theorem names_len {c : Clerk} (hS : Small c) (h0 : 0 < c.books.length) (more : List (List UInt8)) (hm : more.length ≤ 1) : (namesL c more).length ≤ 1000000 := by
  have h1 := hS.each _ (lastB_mem h0)
  have h2 := hS.wait
  unfold namesL
  simp only [List.length_append, List.length_map]
  omega
theorem names_at (c : Clerk) (a : CLay) (more : List (List UInt8)) (hw : c.wf) (hS : Small c) (h0 : 0 < c.books.length) (hml : more.length ≤ 1) (hm : ∀ s ∈ more, s.length ≤ 4611686018427387904) {F : Hp} (ha : c.at F a) {pm : Option Addr} {cm : Nat} (hfm : Frow F pm (more.map S)) :
    Plain Tryz.prog F 61 [c.v a, .slice pm more.length cm] (i64 ((namesN c more : Nat) : Int)) := by
  obtain ⟨bs, h1, h2, h3⟩ := ha.b
  exact names_ok c a bs more hw h0 h1 (names_len hS h0 more hml) hm ha.w h2 h3 hfm
theorem spanB_eq (c : Clerk) : ((((!(decide (1 ≤ c.batch) && decide (c.batch ≤ 30))) || (!(decide (1 ≤ c.every) && decide (c.every ≤ 1000)))) || decide (c.now < 0)) || decide (1000000000 < c.now)) = spanB c := by
  unfold spanB
  rw [Bool.eq_iff_iff]
  simp only [Bool.or_eq_true, Bool.not_eq_true', Bool.and_eq_false_iff, decide_eq_false_iff_not, decide_eq_true_eq]
  omega
attribute [local irreducible] vc vcOps seqK blockK loopK retK retG retI loopV Plain CallOK CallIn bodied VS vcAny dropG backK brK loopPK IntKind.wrap
attribute [local irreducible] bookFault lvlN rootsF lastB lastH clerkF queueFault chainF booksF namesN
set_option maxRecDepth 100000
set_option maxHeartbeats 4000000
theorem clerkcheck_ok (c : Clerk) (a : CLay) (hw : c.wf) {F : Hp} (ha : c.at F a) : Plain Tryz.prog F 23 [c.v a] (i64 (clerkF c)) := by
  have hhl := hw.hlen
  refine plain_vc (N := 50) (rv := [.tmp 2]) tbok mixed Tryz.func23 rfl rfl rfl rfl rfl ?_
  (refine run ?_; repeat intro b)
  refine s_plain _ rfl rfl rfl bd72 rfl (queuecheck_ok c.queue hw.queue ha.w) ?_
  (refine run ?_; repeat intro b)
  refine s_if (decide (queueFault c.queue ≠ 0)) ?_ (fun h0 => ?_) (fun h0 => ?_)
  · refine congrArg (fun b => some (EV.v (.bool b))) ?_
    rw [Bool.eq_iff_iff]; simp
  · have e : clerkF c = queueFault c.queue := by unfold clerkF; rw [if_pos (of_decide_eq_true h0)]
    rw [e]
    (refine run ?_; repeat intro b)
    rfl
  have h0 : queueFault c.queue = 0 := by have := of_decide_eq_false h0; omega
  (refine run ?_; repeat intro b)
  refine s_plain _ rfl rfl rfl bd56 rfl (span_ok c.batch 30 F) ?_
  (refine run ?_; repeat intro b)
  refine s_gplain _ rfl rfl rfl rfl bd56 rfl rfl (fun _ => span_ok c.every 1000 F) ?_
  (refine run ?_; repeat intro b)
  refine s_if (spanB c) ?_ (fun h1 => ?_) (fun h1 => ?_)
  · refine congrArg (fun b => some (EV.v (.bool b))) ?_
    rw [bpick_or, bpick_or, bpick_or, ← spanB_eq]
  · have e : clerkF c = 4 := by unfold clerkF; rw [if_neg (by rw [h0]; decide), if_pos h1]
    rw [e]
    (refine run ?_; repeat intro b)
    rfl
  (refine run ?_; repeat intro b)
  refine s_plain _ rfl rfl rfl bd73 rfl (chaincheck_ok c.heads (by omega) hw.heads ha.h) ?_
  (refine run ?_; repeat intro b)
  refine s_if (decide ((chainF c.heads).1 ≠ 0)) ?_ (fun h2 => ?_) (fun h2 => ?_)
  · refine congrArg (fun b => some (EV.v (.bool b))) ?_
    rw [Bool.eq_iff_iff]; simp
  · have e : clerkF c = (chainF c.heads).1 := by unfold clerkF; rw [if_neg (by rw [h0]; decide), h1, if_neg (by decide), if_pos (of_decide_eq_true h2)]
    rw [e]
    (refine run ?_; repeat intro b)
    rfl
  have h2 : (chainF c.heads).1 = 0 := by have := of_decide_eq_false h2; omega
  (refine run ?_; repeat intro b)
  refine s_plain _ rfl rfl rfl bd74 rfl (books_ok c a hw (chain_pos h2) ha) ?_
  (refine run ?_; repeat intro b)
  refine s_if (decide (booksF c ≠ 0)) ?_ (fun h3 => ?_) (fun h3 => ?_)
  · refine congrArg (fun b => some (EV.v (.bool b))) ?_
    rw [Bool.eq_iff_iff]; simp
  · have e : clerkF c = booksF c := by unfold clerkF; rw [if_neg (by rw [h0]; decide), h1, if_neg (by decide), if_neg (by rw [h2]; decide), if_pos (of_decide_eq_true h3)]
    rw [e]
    (refine run ?_; repeat intro b)
    rfl
  have h3 : booksF c = 0 := by have := of_decide_eq_false h3; omega
  obtain ⟨hS, hb0⟩ := pre_small h0 h2 h3
  rw [clerkF_names h0 h1 h2 h3]
  (refine run ?_; repeat intro b)
  refine s_plain _ rfl rfl rfl bd61 rfl (names_at c a [] hw hS hb0 (by decide) (fun s hs => by cases hs) ha (frow_nil _ _)) ?_
  (refine run ?_; repeat intro b)
  refine s_if (decide (24 < namesN c [])) ?_ (fun h4 => ?_) (fun h4 => ?_)
  · refine congrArg (fun b => some (EV.v (.bool b))) ?_
    rw [decide_eq_decide]; omega
  · rw [if_pos (of_decide_eq_true h4)]
    (refine run ?_; repeat intro b)
    rfl
  · rw [if_neg (of_decide_eq_false h4)]
    (refine run ?_; repeat intro b)
    rfl
end Go.Proofs.YthkkgphjjmhglaaGreatDoor
/-!
Package clerk: Ask, Book, New: the walks.
-/
namespace Go.Proofs.YthkkgphjjmhglaaGreatDoor
set_option linter.unusedVariables false
set_option linter.unusedSimpArgs false
open Go.TR
attribute [local irreducible] vc vcOps seqK blockK loopK retK retG retI loopV Plain CallOK CallIn bodied VS vcAny dropG backK brK loopPK IntKind.wrap
attribute [local irreducible] bookFault lvlN rootsF lastB lastH clerkF queueFault chainF booksF namesN askFault closedB
set_option maxRecDepth 100000
set_option maxHeartbeats 4000000
theorem clerkbook_ok (c : Clerk) (l : CLay) (n : Int) (hw : c.wf) (hn : -9223372036854775808 ≤ n ∧ n ≤ 9223372036854775807) {F : Hp} (ha : c.at F l) : CallF Tryz.prog F 20 [c.v l, i64 n] (fun y F' => ∃ p' c', y = pair (.slice p' (bookO c n).length c') (i64 (bookE c n)) ∧ Frow F' p' ((bookO c n).flatMap Entry.row)) := by
  refine CallOK.drop (call_vc (N := 27) (rv := [.tmp 4, .tmp 5]) tbok mixed Tryz.func20 rfl rfl rfl rfl rfl ?_)
  have hB : bookE c n ≠ 0 → bookO c n = [] := fun h => by unfold bookO; rw [if_neg h]
  (refine run ?_; repeat intro b)
  refine s_plain _ rfl rfl rfl bd23 rfl (clerkcheck_ok c l hw ha) ?_
  (refine run ?_; repeat intro b)
  refine s_if (decide (clerkF c ≠ 0)) ?_ (fun h0 => ?_) (fun h0 => ?_)
  · refine congrArg (fun b => some (EV.v (.bool b))) ?_
    rw [Bool.eq_iff_iff]; simp
  · have h0 := of_decide_eq_true h0
    have e : bookE c n = clerkF c := by unfold bookE; rw [if_pos h0]
    rw [hB (by rw [e]; exact h0), e]
    (refine run ?_; repeat intro b)
    exact s_retG (VS.id ⟨_, rfl, none, 0, rfl, frow_nil _ _⟩)
  have h0 : clerkF c = 0 := by have := of_decide_eq_false h0; omega
  have hG := clerkF_zero h0
  have hlen := hG.lens
  have e : bookE c n = if n < 0 ∨ (c.books.length : Int) ≤ n then 4 else 0 := by unfold bookE; rw [if_neg (by rw [h0]; decide)]
  (refine run ?_; repeat intro b)
  refine s_if (decide (n < 0 ∨ (c.books.length : Int) ≤ n)) ?_ (fun h1 => ?_) (fun h1 => ?_)
  · refine congrArg (fun b => some (EV.v (.bool b))) ?_
    rw [bpick_or, Bool.eq_iff_iff]; simp
  · rw [if_pos (of_decide_eq_true h1)] at e
    rw [hB (by rw [e]; decide), e]
    (refine run ?_; repeat intro b)
    exact s_retG (VS.id ⟨_, rfl, none, 0, rfl, frow_nil _ _⟩)
  have h1 := of_decide_eq_false h1
  rw [if_neg h1] at e
  obtain ⟨k, rfl⟩ : ∃ k : Nat, n = (k : Int) := ⟨n.toNat, by omega⟩
  have hk : k < c.books.length := by omega
  have eO : bookO c (k : Int) = c.books[k] := by
    unfold bookO
    rw [if_pos e, Int.toNat_natCast]
    simp [List.getD, hk]
  obtain ⟨bs, hb, hfb, hbs⟩ := ha.b
  have hbl := bks_len hb
  obtain ⟨⟨ps, ls, cs⟩, k1, k2, k3⟩ := bk_get hb hk
  have kc := bk_cell hfb k1
  have hat := hbs _ k3
  have h24 := hG.small.each c.books[k] (List.getElem_mem hk)
  simp only at k2 hat
  rw [e, eO, ← k2]
  rw [← k2] at h24
  (refine run ?_; repeat intro b)
  refine s_pureO rfl rfl rfl ⟨by omega, by omega, frow_some hfb (j := k) (by rw [List.length_map, hbl]; omega)⟩ ?_
  refine s_load (Bk.v (ps, ls, cs)) rfl rfl rfl rfl (by rw [Int.toNat_natCast, Nat.mul_one]; exact kc) ?_
  (refine run ?_; repeat intro b)
  refine s_callF rfl rfl rfl bd31 rfl (CallOK.frz (fun h => by rw [List.eq_nil_of_length_eq_zero h]; rfl) (clone_entry (ls.flatMap Entry.row) ls.length (flat_len entry_row _) hat.2 (entry_one _) (by omega))) ?_
  rintro _ G2 hG2 ⟨p2, c2, rfl, hc2, hf2⟩
  (refine run ?_; repeat intro b)
  exact s_retG (VS.id ⟨_, rfl, p2, c2, rfl, hf2⟩)
end Go.Proofs.YthkkgphjjmhglaaGreatDoor
