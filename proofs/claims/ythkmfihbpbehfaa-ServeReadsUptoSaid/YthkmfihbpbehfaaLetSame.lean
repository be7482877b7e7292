/-
Letters and nets compared: tallyrollref.SameBook, SameMarks, SameProof, SameReply, SameLetter, SameLetters, SameNet.
-/
import Derived.Test.YthkmfihbpbehfaaSetLetMath
import Derived.Test.YthkmfihbpbehfaaChain
namespace Go.Proofs.Ythkmfihbpbehfaa
set_option linter.unusedVariables false
set_option linter.unusedSimpArgs false
open Go.TR
theorem entry_neq (x y : Entry) : (!(decide (bl (mkB x.name) = bl (mkB y.name)) && (decide (bl (mkB x.value) = bl (mkB y.value)) && true))) = decide (x ≠ y) := by
  obtain ⟨a, b⟩ := x
  obtain ⟨a', b'⟩ := y
  simp only [bl_S, ne_eq, Entry.mk.injEq]
  by_cases h1 : a = a' <;> by_cases h2 : b = b' <;> simp [h1, h2]
attribute [local irreducible] vc vcOps seqK blockK loopK retK retG retI loopV Plain CallOK CallIn bodied VS vcAny dropG backK brK loopPK IntKind.wrap
set_option maxRecDepth 100000
set_option maxHeartbeats 4000000
theorem samebook_ok (l1 l2 : List Entry) {p1 p2 : Option Addr} {c1 c2 : Nat} {F : Hp} (h1 : Frow F p1 (l1.flatMap Entry.row)) (h2 : Frow F p2 (l2.flatMap Entry.row)) (hn : l1.length ≤ 4611686018427387904) : Plain Try.prog F 161 [.slice p1 l1.length c1, .slice p2 l2.length c2] (.bool (decide (l1 = l2))) := by
  refine plain_vc (N := 26) (rv := [.tmp 4]) tbok mixed Try.func161 rfl rfl rfl rfl rfl ?_
  (refine run ?_; repeat intro b)
  refine s_if _ rfl (fun h => ?_) (fun h => ?_)
  · (refine run ?_; repeat intro b)
    have hne : l1 ≠ l2 := by rintro rfl; simp at h
    simp [tupV, hne]
  · have hl : l1.length = l2.length := by simp at h; omega
    (refine run ?_; repeat intro b)
    refine s_loopP (fun k : Nat => k ≤ l1.length ∧ l1.take k = l2.take k) (fun k => ⟨[(0, .v (.slice p1 l1.length c1)), (1, .v (.slice p2 l2.length c2)), (12, .v (i64 l1.length)), (13, .v (i64 (k : Nat)))], F, [], 0⟩) (fun k => l1.length - k) 0 ⟨Nat.zero_le _, rfl⟩ (VS.keepN [0, 1, 12, 13] rfl rfl) ?_
    rintro k ⟨hk, ht⟩
    by_cases hlt : k < l1.length
    · have hlt2 : k < l2.length := by omega
      obtain ⟨o1, o2⟩ := frow_agg entry_row (by decide) h1 k hlt
      obtain ⟨o3, o4⟩ := frow_agg entry_row (by decide) h2 k hlt2
      obtain ⟨x, hx⟩ : ∃ x, x = l1[k] := ⟨_, rfl⟩
      obtain ⟨y, hy⟩ : ∃ y, y = l2[k] := ⟨_, rfl⟩
      rw [← hx] at o2
      rw [← hy] at o4
      (refine run ?_; repeat intro b)
      refine s_if true (by rw [← decide_eq_true (p := ((k : Nat) : Int) < ((l1.length : Nat) : Int)) (by omega)]; rfl) (fun _ => ?_) (fun h => by cases h)
      (refine run ?_; repeat intro b)
      refine s_regiond (by kernel_rfl) ?_
      (refine run ?_; repeat intro b)
      refine s_pureO rfl rfl rfl ⟨by omega, by omega, frow_some h1 (j := k * 2) (by rw [flat_len entry_row]; omega)⟩ ?_
      refine s_loadA (Entry.row x) rfl rfl rfl rfl rfl (by rw [Int.toNat_natCast]; exact o1) (by rw [Int.toNat_natCast]; exact o2) ?_
      (refine run ?_; repeat intro b)
      refine s_pureO rfl rfl rfl ⟨by omega, by omega, frow_some h2 (j := k * 2) (by rw [flat_len entry_row]; omega)⟩ ?_
      refine s_loadA (Entry.row y) rfl rfl rfl rfl rfl (by rw [Int.toNat_natCast]; exact o3) (by rw [Int.toNat_natCast]; exact o4) ?_
      (refine run ?_; repeat intro b)
      refine s_if (decide (x ≠ y)) (congrArg (fun b => some (EV.v (.bool b))) (entry_neq x y)) (fun h4 => ?_) (fun h4 => ?_)
      · (refine run ?_; repeat intro b)
        have hne : l1 ≠ l2 := ne_of_get hlt hlt2 (by rw [← hx, ← hy]; exact of_decide_eq_true h4)
        simp [tupV, hne]
      · (refine run ?_; repeat intro b)
        rw [wrap_succ (by omega)]
        exact s_loopPn (k + 1) ⟨hlt, take_succ_eq ht hlt hlt2 (by rw [← hx, ← hy]; simpa using h4)⟩ (by omega) (VS.keepN [0, 1, 12, 13] rfl rfl)
    · have hge : k = l1.length := by omega
      subst hge
      (refine run ?_; repeat intro b)
      refine s_if false (by rw [← decide_eq_false (p := ((l1.length : Nat) : Int) < ((l1.length : Nat) : Int)) (by omega)]; rfl) (fun h => by cases h) (fun _ => ?_)
      (refine run ?_; repeat intro b)
      have he : l1 = l2 := by rw [List.take_length] at ht; rw [ht, hl, List.take_length]
      simp [tupV, he]
/-- slices.Equal: two slices of one-cell elements. -/
theorem samemarks_ok (l1 l2 : List Nat) {p1 p2 : Option Addr} {c1 c2 : Nat} {F : Hp} (h1 : Frow F p1 (l1.map mu)) (h2 : Frow F p2 (l2.map mu)) (hn : l1.length ≤ 9223372036854775806) : Plain Try.prog F 162 [.slice p1 l1.length c1, .slice p2 l2.length c2] (.bool (decide (l1 = l2))) := by
  refine plain_vc (N := 26) (rv := [.tmp 4]) tbok mixed Try.func162 rfl rfl rfl rfl rfl ?_
  (refine run ?_; repeat intro b)
  refine s_if _ rfl (fun h => ?_) (fun h => ?_)
  · (refine run ?_; repeat intro b)
    have hne : l1 ≠ l2 := by rintro rfl; simp at h
    simp [tupV, hne]
  · have hl : l1.length = l2.length := by simp at h; omega
    (refine run ?_; repeat intro b)
    refine s_loopP (fun k : Nat => k ≤ l1.length ∧ l1.take k = l2.take k) (fun k => ⟨[(0, .v (.slice p1 l1.length c1)), (1, .v (.slice p2 l2.length c2)), (12, .v (i64 l1.length)), (13, .v (i64 (k : Nat)))], F, [], 0⟩) (fun k => l1.length - k) 0 ⟨Nat.zero_le _, rfl⟩ (VS.keepN [0, 1, 12, 13] rfl rfl) ?_
    rintro k ⟨hk, ht⟩
    (refine run ?_; repeat intro b)
    refine s_if _ rfl (fun h3 => ?_) (fun h3 => ?_)
    · have hlt : k < l1.length := by simpa using h3
      have g1 : k < (l1.map mu).length := by simpa using hlt
      have g2 : k < (l2.map mu).length := by simpa using (hl ▸ hlt)
      (refine run ?_; repeat intro b)
      refine s_regiond (by kernel_rfl) ?_
      (refine run ?_; repeat intro b)
      refine s_pureO rfl rfl rfl ⟨by omega, by omega, frow_some h1 g1⟩ ?_
      refine s_load (mu l1[k]) rfl rfl rfl rfl (by have := frow_get h1 g1; simpa using this) ?_
      (refine run ?_; repeat intro b)
      refine s_pureO rfl rfl rfl ⟨by omega, by omega, frow_some h2 g2⟩ ?_
      refine s_load (mu l2[k]) rfl rfl rfl rfl (by have := frow_get h2 g2; simpa using this) ?_
      (refine run ?_; repeat intro b)
      refine s_if _ rfl (fun h4 => ?_) (fun h4 => ?_)
      · (refine run ?_; repeat intro b)
        have hne : l1 ≠ l2 := ne_of_get hlt (hl ▸ hlt) (fun e => by simp [e] at h4)
        simp [tupV, hne]
      · (refine run ?_; repeat intro b)
        rw [wrap_succ (by omega)]
        exact s_loopPn (k + 1) ⟨hlt, take_succ_eq ht hlt (hl ▸ hlt) (by first | simpa using h4 | (simp at h4; exact of_decide_eq_true h4) | (simp at h4; omega))⟩ (by omega) (VS.keepN [0, 1, 12, 13] rfl rfl)
    · have hge : k = l1.length := by simp at h3; omega
      (refine run ?_; repeat intro b)
      subst hge
      have he : l1 = l2 := by rw [List.take_length] at ht; rw [ht, hl, List.take_length]
      simp [tupV, he]
theorem samebook_self (l m : List Entry) (e : l = m) {p1 p2 : Option Addr} {c1 c2 : Nat} {F : Hp} (h1 : Frow F p1 (l.flatMap Entry.row)) (h2 : Frow F p2 (m.flatMap Entry.row)) (hn : l.length ≤ 4611686018427387904) : Plain Try.prog F 161 [.slice p1 l.length c1, .slice p2 m.length c2] (.bool true) := by
  have := samebook_ok l m (c1 := c1) (c2 := c2) h1 h2 hn
  rwa [decide_eq_true e] at this
theorem samemarks_self (l m : List Nat) (e : l = m) {p1 p2 : Option Addr} {c1 c2 : Nat} {F : Hp} (h1 : Frow F p1 (l.map mu)) (h2 : Frow F p2 (m.map mu)) (hn : l.length ≤ 4611686018427387904) : Plain Try.prog F 162 [.slice p1 l.length c1, .slice p2 m.length c2] (.bool true) := by
  have := samemarks_ok l m (c1 := c1) (c2 := c2) h1 h2 (by omega)
  rwa [decide_eq_true e] at this
theorem sameheads_self (l m : List Head) (e : l = m) {p1 p2 : Option Addr} {c1 c2 : Nat} {F : Hp} (h1 : Frow F p1 (l.flatMap Head.row)) (h2 : Frow F p2 (m.flatMap Head.row)) (hn : l.length ≤ 4611686018427387904) : Plain Try.prog F 133 [.slice p1 l.length c1, .slice p2 m.length c2] (.bool true) := by
  have := sameheads_ok l m (c1 := c1) (c2 := c2) h1 h2 hn
  rwa [decide_eq_true e] at this
theorem sameproof_ok (p : Prf) (a a' : Lay) {F : Hp} (hw : p.wf) (ha : p.at F a) (hb : p.at F a') : Plain Try.prog F 130 [p.v a, p.v a'] (.bool true) := by
  refine plain_vc (N := 24) (rv := [.tmp 4]) tbok mixed Try.func130 rfl rfl rfl rfl rfl ?_
  (refine run ?_; repeat intro b)
  refine s_gplain _ rfl rfl rfl rfl bd161 rfl rfl (fun _ => samebook_self p.ents p.ents rfl ha.ents hb.ents hw.ents) ?_
  (refine run ?_; repeat intro b)
  refine s_gplain _ rfl rfl rfl rfl bd162 rfl rfl (fun _ => samemarks_self p.sides p.sides rfl ha.sides hb.sides hw.sides) ?_
  (refine run ?_; repeat intro b)
  simp [tupV, bpick]
@[reducible] def replyV (h : Head) (p : Prf) (a : Lay) : Value := .agg #[i64 h.epoch, u64 (h.root : Nat), u64 (h.prev : Nat), i64 h.at_, S p.name, .slice a.e p.ents.length a.ce, .slice a.s p.sides.length a.cs]
theorem samereply_ok (h : Head) (p : Prf) (a a' : Lay) {F : Hp} (hw : p.wf) (ha : p.at F a) (hb : p.at F a') : Plain Try.prog F 75 [replyV h p a, replyV h p a'] (.bool true) := by
  refine plain_vc (N := 17) (rv := [.tmp 4]) tbok mixed Try.func75 rfl rfl rfl rfl rfl ?_
  (refine run ?_; repeat intro b)
  refine s_gplain _ rfl rfl rfl rfl bd130 rfl rfl (fun _ => sameproof_ok p a a' hw ha hb) ?_
  (refine run ?_; repeat intro b)
  simp [tupV, bpick]
theorem sameletter_ok (x y : LP) (e : x.l = y.l) {F : Hp} (hw : x.l.wf) (hx : x.at F) (hy : y.at F) : Plain Try.prog F 83 [.agg x.row.toArray, .agg y.row.toArray] (.bool true) := by
  obtain ⟨l, p1, c1, a1⟩ := x
  obtain ⟨m, p2, c2, a2⟩ := y
  dsimp only at e hw
  subst e
  refine plain_vc (N := 45) (rv := [.tmp 4]) tbok mixed Try.func83 rfl rfl rfl rfl rfl ?_
  (refine run ?_; repeat intro b)
  have hl := hw.heads
  refine s_gplain _ rfl rfl rfl rfl bd133 rfl rfl (fun _ => sameheads_self l.heads l.heads rfl hx.heads hy.heads (by omega)) ?_
  (refine run ?_; repeat intro b)
  refine s_gplain _ rfl rfl rfl rfl bd75 rfl rfl (fun _ => samereply_ok l.head l.prf a1 a2 hw.prf hx.prf hy.prf) ?_
  (refine run ?_; repeat intro b)
  simp [tupV, bpick]
theorem samelets_ok (L M : List LP) (e : L.map LP.l = M.map LP.l) {p1 p2 : Option Addr} {c1 c2 : Nat} {F : Hp} (hw : ∀ x ∈ L, x.l.wf) (h1 : Frow F p1 (L.flatMap LP.row)) (h2 : Frow F p2 (M.flatMap LP.row)) (a1 : ∀ x ∈ L, x.at F) (a2 : ∀ x ∈ M, x.at F) (hn : L.length ≤ 4611686018427387904) : Plain Try.prog F 21 [.slice p1 L.length c1, .slice p2 M.length c2] (.bool true) := by
  have hl : L.length = M.length := by simpa using congrArg List.length e
  refine plain_vc (N := 27) (rv := [.tmp 4]) tbok mixed Try.func21 rfl rfl rfl rfl rfl ?_
  (refine run ?_; repeat intro b)
  refine s_if false ?_ (fun h => by cases h) (fun _ => ?_)
  · refine congrArg (fun b => some (EV.v (.bool b))) ?_
    simp [hl]
  (refine run ?_; repeat intro b)
  refine s_loopP (fun k : Nat => k ≤ L.length) (fun k => ⟨[(0, .v (.slice p1 L.length c1)), (1, .v (.slice p2 M.length c2)), (12, .v (i64 L.length)), (13, .v (i64 (k : Nat)))], F, [], 0⟩) (fun k => L.length - k) 0 (Nat.zero_le _) (VS.keepN [0, 1, 12, 13] rfl rfl) ?_
  intro k hk
  by_cases hlt : k < L.length
  · have hlt2 : k < M.length := by omega
    obtain ⟨o1, o2⟩ := frow_agg lp_row (by decide) h1 k hlt
    obtain ⟨o3, o4⟩ := frow_agg lp_row (by decide) h2 k hlt2
    have hxy : L[k].l = M[k].l := by
      have := congrArg (fun l => l[k]?) e
      simpa [hlt, hlt2] using this
    have x1 := a1 _ (List.getElem_mem hlt)
    have x2 := a2 _ (List.getElem_mem hlt2)
    have x3 := hw _ (List.getElem_mem hlt)
    generalize L[k] = x at *
    generalize M[k] = y at *
    (refine run ?_; repeat intro b)
    refine s_if true (by rw [← decide_eq_true (p := ((k : Nat) : Int) < ((L.length : Nat) : Int)) (by omega)]; rfl) (fun _ => ?_) (fun h => by cases h)
    (refine run ?_; repeat intro b)
    refine s_regiond (by kernel_rfl) ?_
    (refine run ?_; repeat intro b)
    refine s_pureO rfl rfl rfl ⟨by omega, by omega, frow_some h1 (j := k * 12) (by rw [flat_len lp_row]; omega)⟩ ?_
    refine s_loadA x.row rfl rfl rfl rfl rfl (by rw [Int.toNat_natCast]; exact o1) (by rw [Int.toNat_natCast]; exact o2) ?_
    (refine run ?_; repeat intro b)
    refine s_pureO rfl rfl rfl ⟨by omega, by omega, frow_some h2 (j := k * 12) (by rw [flat_len lp_row]; omega)⟩ ?_
    refine s_loadA y.row rfl rfl rfl rfl rfl (by rw [Int.toNat_natCast]; exact o3) (by rw [Int.toNat_natCast]; exact o4) ?_
    (refine run ?_; repeat intro b)
    refine s_plain _ rfl rfl rfl bd83 rfl (sameletter_ok x y hxy x3 x1 x2) ?_
    (refine run ?_; repeat intro b)
    rw [wrap_succ (by omega)]
    exact s_loopPn (k + 1) hlt (by omega) (VS.keepN [0, 1, 12, 13] rfl rfl)
  · have hge : k = L.length := by omega
    subst hge
    (refine run ?_; repeat intro b)
    refine s_if false (by rw [← decide_eq_false (p := ((L.length : Nat) : Int) < ((L.length : Nat) : Int)) (by omega)]; rfl) (fun h => by cases h) (fun _ => ?_)
    (refine run ?_; repeat intro b)
    rfl
theorem samenet_ok (n m : NP) (e0 : n.now = m.now) (e : n.way.map LP.l = m.way.map LP.l) {F : Hp} (hw : ∀ x ∈ n.way, x.l.wf) (h1 : n.at F) (h2 : m.at F) (hn : n.way.length ≤ 4611686018427387904) : Plain Try.prog F 15 [n.v, m.v] (.bool true) := by
  refine plain_vc (N := 17) (rv := [.tmp 4]) tbok mixed Try.func15 rfl rfl rfl rfl rfl ?_
  (refine run ?_; repeat intro b)
  refine s_gplain _ rfl rfl rfl rfl bd21 rfl rfl (fun _ => samelets_ok n.way m.way e hw h1.way h2.way h1.each h2.each hn) ?_
  (refine run ?_; repeat intro b)
  simp [tupV, bpick, e0]
end Go.Proofs.Ythkmfihbpbehfaa
