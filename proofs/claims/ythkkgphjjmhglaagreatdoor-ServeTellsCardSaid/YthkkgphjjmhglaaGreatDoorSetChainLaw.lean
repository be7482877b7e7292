/-
Letters on their way, plainly.
-/
import Derived.Test.YthkkgphjjmhglaaGreatDoorSetIdx
import Derived.Test.YthkkgphjjmhglaaGreatDoorSetChain
import Derived.Test.YthkkgphjjmhglaaGreatDoorChain3
import Derived.Test.YthkkgphjjmhglaaGreatDoorDel
/-!
Letters on their way, plainly.
-/
namespace Go.Proofs.YthkkgphjjmhglaaGreatDoor
set_option linter.unusedVariables false
set_option linter.unusedSimpArgs false
open Go.TR
/-- A letter. -/
structure Ltr where
  to_ : Int
  from_ : Int
  since : Int
  due : Int
  heads : List Head
  head : Head
  prf : Prf
/-- A letter, and where it lies. -/
structure LP where
  l : Ltr
  ph : Option Addr
  ch : Nat
  a : Lay
@[reducible] def LP.row (x : LP) : List Value := [i64 x.l.to_, i64 x.l.from_, i64 x.l.since, i64 x.l.due, .slice x.ph x.l.heads.length x.ch, i64 x.l.head.epoch, u64 (x.l.head.root : Nat), u64 (x.l.head.prev : Nat), i64 x.l.head.at_, S x.l.prf.name, .slice x.a.e x.l.prf.ents.length x.a.ce, .slice x.a.s x.l.prf.sides.length x.a.cs]
structure Ltr.wf (l : Ltr) : Prop where
  heads : l.heads.length * 32 ≤ 140737488355328
  each : ∀ x ∈ l.heads, x.wf
  head : l.head.wf
  prf : l.prf.wf
  ents : l.prf.ents.length * 32 ≤ 140737488355328
  sides : l.prf.sides.length * 8 ≤ 140737488355328
structure LP.at (F : Hp) (x : LP) : Prop where
  heads : Frow F x.ph (x.l.heads.flatMap Head.row)
  prf : x.l.prf.at F x.a
theorem LP.at_sub {F F' : Hp} (h : F.sub F') {x : LP} (k : x.at F) : x.at F' := ⟨frow_sub h k.heads, Prf.at_sub h k.prf⟩
/-- A net: its time, its letters, where they lie. -/
structure NP where
  now : Int
  way : List LP
  p : Option Addr
  c : Nat
@[reducible] def NP.v (n : NP) : Value := .agg #[i64 n.now, .slice n.p n.way.length n.c]
structure NP.at (F : Hp) (n : NP) : Prop where
  way : Frow F n.p (n.way.flatMap LP.row)
  each : ∀ x ∈ n.way, x.at F
theorem NP.at_sub {F F' : Hp} (h : F.sub F') {n : NP} (k : n.at F) : n.at F' := ⟨frow_sub h k.way, fun x hx => LP.at_sub h (k.each x hx)⟩
def NP.none : NP := ⟨0, [], Option.none, 0⟩
def netFault (n : NP) : Int := if n.now < 0 ∨ 1000000000 < n.now then 4 else if 60 < n.way.length then 7 else if (n.way.any fun x => decide (x.l.due ≤ n.now)) = true then 4 else 0
def badFate (k : Int) : Bool := decide (k < 1) || decide (100 < k)
/-- What sending a letter comes to. -/
def sendE (n : NP) (fs : List Int) : Int := if netFault n ≠ 0 then netFault n else if fs.any badFate = true then 4 else if 60 < n.way.length + fs.length then 7 else 0
def Ltr.by (l : Ltr) (t : Int) : Ltr := { l with due := t }
def sendL (n : NP) (l : Ltr) (fs : List Int) : List Ltr := n.way.map LP.l ++ fs.map fun k => l.by (n.now + k)
/-- What comes back from sending. -/
def SendQ (n : NP) (l : Ltr) (fs : List Int) (x : Value) (F : Hp) : Prop := ∃ y : NP, x = pair y.v (i64 (sendE n fs)) ∧ y.at F ∧ y.way.length ≤ 4611686018427387904 ∧ y.now = (if sendE n fs = 0 then n.now else 0) ∧ y.way.map LP.l = if sendE n fs = 0 then sendL n l fs else []
def tickE (n : NP) : Int := if netFault n ≠ 0 then netFault n else if n.now = 1000000000 then 9 else 0
/-- What comes back from a tick. -/
def TickQ (n : NP) (x : Value) (F : Hp) : Prop := ∃ (y : NP) (l : List LP) (p : Option Addr) (c : Nat), x = triple y.v (.slice p l.length c) (i64 (tickE n)) ∧ y.at F ∧ y.way.length ≤ 60 ∧ l.length ≤ 60 ∧ Frow F p (l.flatMap LP.row) ∧ (∀ x ∈ l, x.at F) ∧ y.now = (if tickE n = 0 then n.now + 1 else 0) ∧
  y.way.map LP.l = (if tickE n = 0 then (n.way.map LP.l).filter fun m => !decide (m.due = n.now + 1) else []) ∧ l.map LP.l = if tickE n = 0 then (n.way.map LP.l).filter fun m => decide (m.due = n.now + 1) else []
end Go.Proofs.YthkkgphjjmhglaaGreatDoor
/-!
Letters and nets compared: tallyrollref.SameBook, SameMarks, SameProof, SameReply, SameLetter, SameLetters, SameNet.
-/
namespace Go.Proofs.YthkkgphjjmhglaaGreatDoor
set_option linter.unusedVariables false
set_option linter.unusedSimpArgs false
open Go.TR
theorem entry_neq (x y : Entry) : (!(decide (bl (mkB x.name) = bl (mkB y.name)) && (decide (bl (mkB x.value) = bl (mkB y.value)) && true))) = decide (x ≠ y) := by
  obtain ⟨a, b⟩ := x
  obtain ⟨a', b'⟩ := y
  simp only [bl_S, ne_eq, Entry.mk.injEq]
  by_cases h1 : a = a' <;> by_cases h2 : b = b' <;> simp [h1, h2]
attribute [local irreducible] vc vcOps seqK blockK loopK retK retG retI loopV Plain CallOK CallIn bodied VS vcAny dropG backK brK loopPK IntKind.wrap
set_option maxRecDepth 100000
set_option maxHeartbeats 4000000
theorem samebook_ok (l1 l2 : List Entry) {p1 p2 : Option Addr} {c1 c2 : Nat} {F : Hp} (h1 : Frow F p1 (l1.flatMap Entry.row)) (h2 : Frow F p2 (l2.flatMap Entry.row)) (hn : l1.length ≤ 4611686018427387904) : Plain Tryz.prog F 70 [.slice p1 l1.length c1, .slice p2 l2.length c2] (.bool (decide (l1 = l2))) := by
  refine plain_vc (N := 26) (rv := [.tmp 4]) tbok mixed Tryz.func70 rfl rfl rfl rfl rfl ?_
  (refine run ?_; repeat intro b)
  refine s_if _ rfl (fun h => ?_) (fun h => ?_)
  · (refine run ?_; repeat intro b)
    have hne : l1 ≠ l2 := by rintro rfl; simp at h
    simp [tupV, hne]
  · have hl : l1.length = l2.length := by simp at h; omega
    (refine run ?_; repeat intro b)
    refine s_loopP (fun k : Nat => k ≤ l1.length ∧ l1.take k = l2.take k) (fun k => ⟨[(0, .v (.slice p1 l1.length c1)), (1, .v (.slice p2 l2.length c2)), (12, .v (i64 l1.length)), (13, .v (i64 (k : Nat)))], F, [], 0⟩) (fun k => l1.length - k) 0 ⟨Nat.zero_le _, rfl⟩ (VS.keepN [0, 1, 12, 13] rfl rfl) ?_
    rintro k ⟨hk, ht⟩
    by_cases hlt : k < l1.length
    · have hlt2 : k < l2.length := by omega
      obtain ⟨o1, o2⟩ := frow_agg entry_row (by decide) h1 k hlt
      obtain ⟨o3, o4⟩ := frow_agg entry_row (by decide) h2 k hlt2
      obtain ⟨x, hx⟩ : ∃ x, x = l1[k] := ⟨_, rfl⟩
      obtain ⟨y, hy⟩ : ∃ y, y = l2[k] := ⟨_, rfl⟩
      rw [← hx] at o2
      rw [← hy] at o4
      (refine run ?_; repeat intro b)
      refine s_if true (by rw [← decide_eq_true (p := ((k : Nat) : Int) < ((l1.length : Nat) : Int)) (by omega)]; rfl) (fun _ => ?_) (fun h => by cases h)
      (refine run ?_; repeat intro b)
      refine s_regiond (by kernel_rfl) ?_
      (refine run ?_; repeat intro b)
      refine s_pureO rfl rfl rfl ⟨by omega, by omega, frow_some h1 (j := k * 2) (by rw [flat_len entry_row]; omega)⟩ ?_
      refine s_loadA (Entry.row x) rfl rfl rfl rfl rfl (by rw [Int.toNat_natCast]; exact o1) (by rw [Int.toNat_natCast]; exact o2) ?_
      (refine run ?_; repeat intro b)
      refine s_pureO rfl rfl rfl ⟨by omega, by omega, frow_some h2 (j := k * 2) (by rw [flat_len entry_row]; omega)⟩ ?_
      refine s_loadA (Entry.row y) rfl rfl rfl rfl rfl (by rw [Int.toNat_natCast]; exact o3) (by rw [Int.toNat_natCast]; exact o4) ?_
      (refine run ?_; repeat intro b)
      refine s_if (decide (x ≠ y)) (congrArg (fun b => some (EV.v (.bool b))) (entry_neq x y)) (fun h4 => ?_) (fun h4 => ?_)
      · (refine run ?_; repeat intro b)
        have hne : l1 ≠ l2 := ne_of_get hlt hlt2 (by rw [← hx, ← hy]; exact of_decide_eq_true h4)
        simp [tupV, hne]
      · (refine run ?_; repeat intro b)
        rw [wrap_succ (by omega)]
        exact s_loopPn (k + 1) ⟨hlt, take_succ_eq ht hlt hlt2 (by rw [← hx, ← hy]; simpa using h4)⟩ (by omega) (VS.keepN [0, 1, 12, 13] rfl rfl)
    · have hge : k = l1.length := by omega
      subst hge
      (refine run ?_; repeat intro b)
      refine s_if false (by rw [← decide_eq_false (p := ((l1.length : Nat) : Int) < ((l1.length : Nat) : Int)) (by omega)]; rfl) (fun h => by cases h) (fun _ => ?_)
      (refine run ?_; repeat intro b)
      have he : l1 = l2 := by rw [List.take_length] at ht; rw [ht, hl, List.take_length]
      simp [tupV, he]
/-- slices.Equal: two slices of one-cell elements. -/
theorem samemarks_ok (l1 l2 : List Nat) {p1 p2 : Option Addr} {c1 c2 : Nat} {F : Hp} (h1 : Frow F p1 (l1.map mu)) (h2 : Frow F p2 (l2.map mu)) (hn : l1.length ≤ 9223372036854775806) : Plain Tryz.prog F 106 [.slice p1 l1.length c1, .slice p2 l2.length c2] (.bool (decide (l1 = l2))) := by
  refine plain_vc (N := 26) (rv := [.tmp 4]) tbok mixed Tryz.func106 rfl rfl rfl rfl rfl ?_
  (refine run ?_; repeat intro b)
  refine s_if _ rfl (fun h => ?_) (fun h => ?_)
  · (refine run ?_; repeat intro b)
    have hne : l1 ≠ l2 := by rintro rfl; simp at h
    simp [tupV, hne]
  · have hl : l1.length = l2.length := by simp at h; omega
    (refine run ?_; repeat intro b)
    refine s_loopP (fun k : Nat => k ≤ l1.length ∧ l1.take k = l2.take k) (fun k => ⟨[(0, .v (.slice p1 l1.length c1)), (1, .v (.slice p2 l2.length c2)), (12, .v (i64 l1.length)), (13, .v (i64 (k : Nat)))], F, [], 0⟩) (fun k => l1.length - k) 0 ⟨Nat.zero_le _, rfl⟩ (VS.keepN [0, 1, 12, 13] rfl rfl) ?_
    rintro k ⟨hk, ht⟩
    (refine run ?_; repeat intro b)
    refine s_if _ rfl (fun h3 => ?_) (fun h3 => ?_)
    · have hlt : k < l1.length := by simpa using h3
      have g1 : k < (l1.map mu).length := by simpa using hlt
      have g2 : k < (l2.map mu).length := by simpa using (hl ▸ hlt)
      (refine run ?_; repeat intro b)
      refine s_regiond (by kernel_rfl) ?_
      (refine run ?_; repeat intro b)
      refine s_pureO rfl rfl rfl ⟨by omega, by omega, frow_some h1 g1⟩ ?_
      refine s_load (mu l1[k]) rfl rfl rfl rfl (by have := frow_get h1 g1; simpa using this) ?_
      (refine run ?_; repeat intro b)
      refine s_pureO rfl rfl rfl ⟨by omega, by omega, frow_some h2 g2⟩ ?_
      refine s_load (mu l2[k]) rfl rfl rfl rfl (by have := frow_get h2 g2; simpa using this) ?_
      (refine run ?_; repeat intro b)
      refine s_if _ rfl (fun h4 => ?_) (fun h4 => ?_)
      · (refine run ?_; repeat intro b)
        have hne : l1 ≠ l2 := ne_of_get hlt (hl ▸ hlt) (fun e => by simp [e] at h4)
        simp [tupV, hne]
      · (refine run ?_; repeat intro b)
        rw [wrap_succ (by omega)]
        exact s_loopPn (k + 1) ⟨hlt, take_succ_eq ht hlt (hl ▸ hlt) (by first | simpa using h4 | (simp at h4; exact of_decide_eq_true h4) | (simp at h4; omega))⟩ (by omega) (VS.keepN [0, 1, 12, 13] rfl rfl)
    · have hge : k = l1.length := by simp at h3; omega
      (refine run ?_; repeat intro b)
      subst hge
      have he : l1 = l2 := by rw [List.take_length] at ht; rw [ht, hl, List.take_length]
      simp [tupV, he]
theorem samebook_self (l m : List Entry) (e : l = m) {p1 p2 : Option Addr} {c1 c2 : Nat} {F : Hp} (h1 : Frow F p1 (l.flatMap Entry.row)) (h2 : Frow F p2 (m.flatMap Entry.row)) (hn : l.length ≤ 4611686018427387904) : Plain Tryz.prog F 70 [.slice p1 l.length c1, .slice p2 m.length c2] (.bool true) := by
  have := samebook_ok l m (c1 := c1) (c2 := c2) h1 h2 hn
  rwa [decide_eq_true e] at this
theorem samemarks_self (l m : List Nat) (e : l = m) {p1 p2 : Option Addr} {c1 c2 : Nat} {F : Hp} (h1 : Frow F p1 (l.map mu)) (h2 : Frow F p2 (m.map mu)) (hn : l.length ≤ 4611686018427387904) : Plain Tryz.prog F 106 [.slice p1 l.length c1, .slice p2 m.length c2] (.bool true) := by
  have := samemarks_ok l m (c1 := c1) (c2 := c2) h1 h2 (by omega)
  rwa [decide_eq_true e] at this
theorem sameproof_ok (p : Prf) (a a' : Lay) {F : Hp} (hw : p.wf) (ha : p.at F a) (hb : p.at F a') : Plain Tryz.prog F 53 [p.v a, p.v a'] (.bool true) := by
  refine plain_vc (N := 24) (rv := [.tmp 4]) tbok mixed Tryz.func53 rfl rfl rfl rfl rfl ?_
  (refine run ?_; repeat intro b)
  refine s_gplain _ rfl rfl rfl rfl bd70 rfl rfl (fun _ => samebook_self p.ents p.ents rfl ha.ents hb.ents hw.ents) ?_
  (refine run ?_; repeat intro b)
  refine s_gplain _ rfl rfl rfl rfl bd106 rfl rfl (fun _ => samemarks_self p.sides p.sides rfl ha.sides hb.sides hw.sides) ?_
  (refine run ?_; repeat intro b)
  simp [tupV, bpick]
@[reducible] def replyV (h : Head) (p : Prf) (a : Lay) : Value := .agg #[i64 h.epoch, u64 (h.root : Nat), u64 (h.prev : Nat), i64 h.at_, S p.name, .slice a.e p.ents.length a.ce, .slice a.s p.sides.length a.cs]
theorem samereply_ok (h : Head) (p : Prf) (a a' : Lay) {F : Hp} (hw : p.wf) (ha : p.at F a) (hb : p.at F a') : Plain Tryz.prog F 13 [replyV h p a, replyV h p a'] (.bool true) := by
  refine plain_vc (N := 17) (rv := [.tmp 4]) tbok mixed Tryz.func13 rfl rfl rfl rfl rfl ?_
  (refine run ?_; repeat intro b)
  refine s_gplain _ rfl rfl rfl rfl bd53 rfl rfl (fun _ => sameproof_ok p a a' hw ha hb) ?_
  (refine run ?_; repeat intro b)
  simp [tupV, bpick]
end Go.Proofs.YthkkgphjjmhglaaGreatDoor
/-!
The law of package chain: Check, Grow, Part, Follows: whatever is handed in, each call answers what the reference answers.
-/
namespace Go.Proofs.YthkkgphjjmhglaaGreatDoor
set_option linter.unusedVariables false
set_option linter.unusedSimpArgs false
open Go.TR
def outside (f t : Int) (h : Head) : Bool := decide (h.epoch < f) || decide (t < h.epoch)
attribute [local irreducible] vc vcOps seqK blockK loopK retK retG retI loopV Plain CallOK CallIn bodied VS vcAny dropG backK brK loopPK IntKind.wrap
set_option maxRecDepth 100000
theorem eq_head_self (l : List Head) {p1 p2 : Option Addr} {c1 c2 n : Nat} {F : Hp} (hn : n = l.length) (h1 : Frow F p1 (l.flatMap Head.row)) (h2 : Frow F p2 (l.flatMap Head.row)) (hl : l.length ≤ 4611686018427387904) : Plain Tryz.prog F 14 [.slice p1 l.length c1, .slice p2 n c2] (.bool true) := by
  subst hn
  have := eq_head l l (c1 := c1) (c2 := c2) h1 h2 hl
  rw [decide_eq_true rfl] at this
  exact this
set_option maxHeartbeats 8000000
end Go.Proofs.YthkkgphjjmhglaaGreatDoor
