/-
tallyrollref: Judged, SameOwner.
-/
import Derived.Test.YteahoodopphacaaGreatOwner2
namespace Go.Proofs.YteahoodopphacaaGreat
set_option linter.unusedVariables false
set_option linter.unusedSimpArgs false
open Go.TR
theorem verd_bad {o : Ow} {l : List Head} {h : Head} {q : Prf} {e : Int} (he : e ≠ 0) (hh : linkK o.head l = e) : verdK o l h q = e ∧ verdN o l h q = 0 := by
  unfold verdK verdN
  rw [hh, if_pos he, if_pos he]
  exact ⟨rfl, rfl⟩
theorem verd_good {o : Ow} {l : List Head} {h : Head} {q : Prf} (hh : linkK o.head l = 0) : verdK o l h q = (if replyF h q ≠ 0 ∨ h ≠ lastH l ∨ q.name ≠ o.name then 4
        else match standsO q.ents q.name with
          | Option.none => if 0 < o.had then 5 else 0
          | some v => if jdg v o.had o.wanted 0 = 0 then 6 else 0) ∧
    verdN o l h q = (if replyF h q ≠ 0 ∨ h ≠ lastH l ∨ q.name ≠ o.name then 0
        else match standsO q.ents q.name with
          | Option.none => 0
          | some v => jdg v o.had o.wanted 0) := by
  have h1 : ¬ (linkK o.head l ≠ 0) := by simpa using hh
  exact ⟨if_neg h1, if_neg h1⟩
attribute [local irreducible] vc vcOps seqK blockK loopK retK retG retI loopV Plain CallOK CallIn bodied VS vcAny dropG backK brK loopPK IntKind.wrap
set_option maxRecDepth 100000
/-- slices.Equal: two slices of one-cell elements. -/
theorem sametexts_ok (l1 l2 : List (List UInt8)) {p1 p2 : Option Addr} {c1 c2 : Nat} {F : Hp} (h1 : Frow F p1 (l1.map S)) (h2 : Frow F p2 (l2.map S)) (hn : l1.length ≤ 9223372036854775806) : Plain Tryz.prog F 19 [.slice p1 l1.length c1, .slice p2 l2.length c2] (.bool (decide (l1 = l2))) := by
  refine plain_vc (N := 26) (rv := [.tmp 4]) tbok mixed Tryz.func19 rfl rfl rfl rfl rfl ?_
  (refine run ?_; repeat intro b)
  refine s_if _ rfl (fun h => ?_) (fun h => ?_)
  · (refine run ?_; repeat intro b)
    have hne : l1 ≠ l2 := by rintro rfl; simp at h
    simp [tupV, hne]
  · have hl : l1.length = l2.length := by simp at h; omega
    (refine run ?_; repeat intro b)
    refine s_loopP (fun k : Nat => k ≤ l1.length ∧ l1.take k = l2.take k) (fun k => ⟨[(0, .v (.slice p1 l1.length c1)), (1, .v (.slice p2 l2.length c2)), (12, .v (i64 l1.length)), (13, .v (i64 (k : Nat)))], F, [], 0⟩) (fun k => l1.length - k) 0 ⟨Nat.zero_le _, rfl⟩ (VS.keepN [0, 1, 12, 13] rfl rfl) ?_
    rintro k ⟨hk, ht⟩
    (refine run ?_; repeat intro b)
    refine s_if _ rfl (fun h3 => ?_) (fun h3 => ?_)
    · have hlt : k < l1.length := by simpa using h3
      have g1 : k < (l1.map S).length := by simpa using hlt
      have g2 : k < (l2.map S).length := by simpa using (hl ▸ hlt)
      (refine run ?_; repeat intro b)
      refine s_regiond (by kernel_rfl) ?_
      (refine run ?_; repeat intro b)
      refine s_pureO rfl rfl rfl ⟨by omega, by omega, frow_some h1 g1⟩ ?_
      refine s_load (S l1[k]) rfl rfl rfl rfl (by have := frow_get h1 g1; simpa using this) ?_
      (refine run ?_; repeat intro b)
      refine s_pureO rfl rfl rfl ⟨by omega, by omega, frow_some h2 g2⟩ ?_
      refine s_load (S l2[k]) rfl rfl rfl rfl (by have := frow_get h2 g2; simpa using this) ?_
      (refine run ?_; repeat intro b)
      refine s_if _ rfl (fun h4 => ?_) (fun h4 => ?_)
      · (refine run ?_; repeat intro b)
        have hne : l1 ≠ l2 := ne_of_get hlt (hl ▸ hlt) (fun e => by simp [e] at h4)
        simp [tupV, hne]
      · (refine run ?_; repeat intro b)
        rw [wrap_succ (by omega)]
        exact s_loopPn (k + 1) ⟨hlt, take_succ_eq ht hlt (hl ▸ hlt) (by first | simpa using h4 | (simp at h4; exact of_decide_eq_true h4) | (simp at h4; omega))⟩ (by omega) (VS.keepN [0, 1, 12, 13] rfl rfl)
    · have hge : k = l1.length := by simp at h3; omega
      (refine run ?_; repeat intro b)
      subst hge
      have he : l1 = l2 := by rw [List.take_length] at ht; rw [ht, hl, List.take_length]
      simp [tupV, he]
@[reducible] def Ow.v8 (o : Ow) (p : Option Addr) (n c : Nat) : Value := .agg #[S o.name, u64 (o.key : Nat), i64 o.head.epoch, u64 (o.head.root : Nat), u64 (o.head.prev : Nat), i64 o.head.at_, .slice p n c, i64 o.had]
theorem head_eq_self (h : Head) : (h.epoch == h.epoch && (((h.root : Nat) : Int) == (h.root : Nat) && (((h.prev : Nat) : Int) == (h.prev : Nat) && (h.at_ == h.at_ && true)))) = true := by simp
set_option maxHeartbeats 2000000 in
theorem sameowner_self (o : Ow) {p1 p2 : Option Addr} {n1 n2 c1 c2 : Nat} {F : Hp} (e1 : n1 = o.wanted.length) (e2 : n2 = o.wanted.length) (hl : o.wanted.length ≤ 1000) (h1 : Frow F p1 (o.wanted.map S)) (h2 : Frow F p2 (o.wanted.map S)) : Plain Tryz.prog F 8 [o.v8 p1 n1 c1, o.v8 p2 n2 c2] (.bool true) := by
  subst e1 e2
  have hst := sametexts_ok o.wanted o.wanted (c1 := c1) (c2 := c2) h1 h2 (by omega)
  rw [decide_eq_true rfl] at hst
  refine plain_vc (N := 38) (rv := [.tmp 4]) tbok mixed Tryz.func8 rfl rfl rfl rfl rfl ?_
  (refine run ?_; repeat intro b)
  refine s_gplain _ rfl rfl rfl rfl bd19 rfl rfl (fun _ => hst) ?_
  (refine run ?_; repeat intro b)
  simp [tupV, bpick]
set_option maxHeartbeats 8000000 in
theorem judged_ok (o : Ow) (l : List Head) (h : Head) (q : Prf) (a : Lay) (hw : o.wf) (h0 : ownF o = 0) (hl : l.length ≤ 4611686018427387904) (hwl : ∀ x ∈ l, x.wf) (hq : q.wf) {p : Option Addr} {c : Nat} {pl : Option Addr} {cl : Nat} {F : Hp} (hf : Frow F p (o.wanted.map S)) (hfl : Frow F pl (l.flatMap Head.row)) (ha : q.at F a) :
    Plain Tryz.prog F 10 [o.v p c, .slice pl l.length cl, repV h q a] (pair (i64 (verdK o l h q)) (i64 (verdN o l h q : Nat))) := by
  obtain ⟨g1, g2, g3, g4, g5, g6⟩ := ownF_zero h0
  obtain ⟨v1, v2, _⟩ := Head.ok_of g2
  have ew : IntKind.i64.wrap (o.head.epoch + 1) = o.head.epoch + 1 := wrap_i64 (by omega) (by omega)
  refine plain_vc (N := 126) (rv := [.tmp 6, .tmp 7]) tbok mixed Tryz.func10 rfl rfl rfl rfl rfl ?_
  (refine run ?_; repeat intro b)
  rename_i b0
  refine s_plain _ rfl rfl rfl bd23 rfl (refchain_ok l hl hwl hfl) ?_
  (refine run ?_; repeat intro b)
  by_cases hz : (chainF l).1 = 0
  · obtain ⟨z1, z2, z3, z4, z5⟩ := chainF_zero hz
    have hz' : l.length - 1 < l.length := by omega
    obtain ⟨o1, o2⟩ := frow_agg head_row (by decide) hfl 0 z1
    obtain ⟨o3, o4⟩ := frow_agg head_row (by decide) hfl (l.length - 1) hz'
    have wy := hwl _ (List.getElem_mem z1)
    rw [← headQ_of z1] at o2 wy
    rw [lastH_of z1] at o4
    have ewl : IntKind.i64.wrap (((l.length : Nat) : Int) - 1) = ((l.length - 1 : Nat) : Int) := by rw [wrap_i64 (by omega) (by omega)]; omega
    rw [hz]
    (refine run ?_; repeat intro b)
    refine s_join (β := Hp × Option Addr × Option Addr) (fun f => F.sub f.1 ∧ Frow f.1 f.2.1 (orN l.head?).row ∧ Frow f.1 f.2.2 (lastH l).row) (fun f => ⟨[(1, .v (.slice pl l.length cl)), (3, .loc 0 0), (5, .loc 1 0), (10, .v (i64 o.head.epoch)), (11, .v (.pointer f.2.1)), (12, .v (.pointer f.2.2))], f.1, [(1, ⟨some b, [.v (i64 h.epoch), .v (u64 (h.root : Nat)), .v (u64 (h.prev : Nat)), .v (i64 h.at_), .v (S q.name), .v (.slice a.e q.ents.length a.ce), .v (.slice a.s q.sides.length a.cs)], 34, 7⟩), (0, ⟨some b0, [.v (S o.name), .v (u64 (o.key : Nat)), .v (i64 o.head.epoch), .v (u64 (o.head.root : Nat)), .v (u64 (o.head.prev : Nat)), .v (i64 o.head.at_), .v (.slice p o.wanted.length c), .v (i64 o.had)], 27, 8⟩)], 4⟩) rfl (fun f hf1 => ?_) (fun KK2 kn kr ke => ?_)
    · obtain ⟨F1, p1, p2⟩ := f
      obtain ⟨hs1, f1, f2⟩ := hf1
      dsimp only at hs1 f1 f2 ⊢
      have s1 : p1.isSome = true := frow_some f1 (j := 0) (Nat.succ_pos 3)
      have s2 : p2.isSome = true := frow_some f2 (j := 0) (Nat.succ_pos 3)
      have r1 : ∀ j, j < 4 → Pcell F1 (padd p1 j) = (orN l.head?).row[j]? := fun j hj => by
        have hl : j < (orN l.head?).row.length := hj
        rw [List.getElem?_eq_getElem hl]
        exact f1 j _ (List.getElem?_eq_getElem hl)
      have r2 : ∀ j, j < 4 → Pcell F1 (padd p2 j) = (lastH l).row[j]? := fun j hj => by
        have hl : j < (lastH l).row.length := hj
        rw [List.getElem?_eq_getElem hl]
        exact f2 j _ (List.getElem?_eq_getElem hl)
      have hho := any_headOf z4 o.head
      have hlk : linkK o.head l = (if o.head.epoch + 1 < (orN l.head?).epoch ∨ ((orN l.head?).epoch = o.head.epoch + 1 ∧ links o.head (orN l.head?) = false) then 2 else if ((headOfE l o.head.epoch).isSome && decide (orN (headOfE l o.head.epoch) ≠ o.head)) = true then 3 else if (lastH l).epoch ≤ o.head.epoch then 1 else 0) := by
        unfold linkK
        rw [if_neg (by simpa using hz), ← hho]
        by_cases c1 : o.head.epoch + 1 < (orN l.head?).epoch
        · rw [if_pos c1, if_pos (.inl c1)]
        · rw [if_neg c1]
          by_cases c2 : (orN l.head?).epoch = o.head.epoch + 1 ∧ links o.head (orN l.head?) = false
          · rw [if_pos c2, if_pos (.inr c2)]
          · rw [if_neg c2, if_neg (show ¬ (o.head.epoch + 1 < (orN l.head?).epoch ∨ ((orN l.head?).epoch = o.head.epoch + 1 ∧ links o.head (orN l.head?) = false)) from not_or.2 ⟨c1, c2⟩)]
      generalize orN l.head? = y at f1 r1 wy hlk
      have hvg := fun hh => verd_good (o := o) (l := l) (h := h) (q := q) hh
      generalize lastH l = z at f2 r2 hlk hvg
      (refine run ?_; repeat intro b)
      refine s_pureO rfl rfl rfl s1 ?_
      refine s_load (i64 y.epoch) rfl rfl rfl rfl (r1 0 (by decide)) ?_
      (refine run ?_; repeat intro b)
      refine s_gpureO rfl rfl rfl rfl rfl (fun _ => s1) ?_
      refine s_gload (i64 y.epoch) rfl rfl rfl rfl rfl rfl (fun _ => r1 0 (by decide)) ?_
      (refine run ?_; repeat intro b)
      refine s_gloadA y.row rfl rfl rfl rfl rfl rfl rfl (fun _ => ⟨s1, r1⟩) ?_
      (refine run ?_; repeat intro b)
      refine s_gplain _ rfl rfl rfl rfl bd24 rfl rfl (fun _ => links_ok o.head y hw.head wy F1) ?_
      (refine run ?_; repeat intro b)
      rw [ew]
      refine s_if (decide (o.head.epoch + 1 < y.epoch ∨ (y.epoch = o.head.epoch + 1 ∧ links o.head y = false))) ?_ (fun h1 => ?_) (fun h1 => ?_)
      · refine congrArg (fun b => some (EV.v (.bool b))) ?_
        have q1 : (y.epoch == o.head.epoch + 1) = decide (y.epoch = o.head.epoch + 1) := by rw [Bool.eq_iff_iff]; simp
        rw [q1]
        by_cases c1 : o.head.epoch + 1 < y.epoch <;> by_cases c2 : y.epoch = o.head.epoch + 1 <;> cases links o.head y <;> simp [bpick, c1, c2]
      · rw [if_pos (of_decide_eq_true h1)] at hlk
        obtain ⟨e1, e2⟩ := verd_bad (o := o) (h := h) (q := q) (by decide) hlk
        rw [e1, e2]
        (refine run ?_; repeat intro b)
        rfl
      · rw [if_neg (of_decide_eq_false h1)] at hlk
        (refine run ?_; repeat intro b)
        refine s_plain _ rfl rfl rfl bd25 rfl (headof_ok l o.head.epoch hl (frow_sub hs1 hfl)) ?_
        generalize orN (headOfE l o.head.epoch) = x at hlk
        generalize (headOfE l o.head.epoch).isSome = is at hlk
        (refine run ?_; repeat intro b)
        rename_i b4
        refine s_if (is && decide (x ≠ o.head)) ?_ (fun h2 => ?_) (fun h2 => ?_)
        · refine congrArg (fun b => some (EV.v (.bool b))) ?_
          rw [bpick_and, head_ne]
        · rw [if_pos h2] at hlk
          obtain ⟨e1, e2⟩ := verd_bad (o := o) (h := h) (q := q) (by decide) hlk
          rw [e1, e2]
          (refine run ?_; repeat intro b)
          rfl
        · rw [if_neg (by rw [h2]; decide)] at hlk
          (refine run ?_; repeat intro b)
          refine s_pureO rfl rfl rfl s2 ?_
          refine s_load (i64 z.epoch) rfl rfl rfl rfl (r2 0 (by decide)) ?_
          (refine run ?_; repeat intro b)
          refine s_if (decide (z.epoch ≤ o.head.epoch)) rfl (fun h3 => ?_) (fun h3 => ?_)
          · rw [if_pos (of_decide_eq_true h3)] at hlk
            obtain ⟨e1, e2⟩ := verd_bad (o := o) (h := h) (q := q) (by decide) hlk
            rw [e1, e2]
            (refine run ?_; repeat intro b)
            rfl
          · rw [if_neg (of_decide_eq_false h3)] at hlk
            obtain ⟨e1, e2⟩ := hvg hlk
            rw [e1, e2]
            (refine run ?_; repeat intro b)
            refine s_loadA z.row rfl rfl rfl rfl rfl s2 r2 ?_
            (refine run ?_; repeat intro b)
            refine s_gplain _ rfl rfl rfl rfl bd26 rfl rfl (fun _ => refreplyfault_ok h q a hq (Prf.at_sub hs1 ha)) ?_
            (refine run ?_; repeat intro b)
            refine s_if (decide (replyF h q ≠ 0 ∨ h ≠ z ∨ q.name ≠ o.name)) ?_ (fun h4 => ?_) (fun h4 => ?_)
            · refine congrArg (fun b => some (EV.v (.bool b))) ?_
              have q1 : (replyF h q != 0) = decide (replyF h q ≠ 0) := by rw [Bool.eq_iff_iff]; simp
              rw [bpick_or, bpick_or, head_ne, bl_S, bl_S, q1]
              by_cases c1 : h = z <;> by_cases c2 : q.name = o.name <;> by_cases c3 : replyF h q = 0 <;> simp only [c1, c2, c3, ne_eq, not_true_eq_false, not_false_eq_true, decide_true, decide_false, Bool.not_true, Bool.not_false, Bool.or_true, Bool.true_or, Bool.or_false, Bool.false_or, or_true, true_or, or_false, false_or] <;> simp [c1, c2, c3]
            · rw [if_pos (of_decide_eq_true h4), if_pos (of_decide_eq_true h4)]
              (refine run ?_; repeat intro b)
              rfl
            · have h4 := of_decide_eq_false h4
              rw [if_neg h4, if_neg h4]
              have hnm : q.name = o.name := by
                by_cases hc : q.name = o.name
                · exact hc
                · exact absurd (.inr (.inr hc)) h4
              rw [hnm]
              (refine run ?_; repeat intro b)
              refine s_plain _ rfl rfl rfl bd27 rfl (refstands_ok q.ents o.name hq.ents (frow_sub hs1 ha.ents)) ?_
              cases standsO q.ents o.name with
              | none =>
                (refine run ?_; repeat intro b)
                refine s_if (decide (0 < o.had)) rfl (fun h5 => ?_) (fun h5 => ?_)
                · rw [if_pos (of_decide_eq_true h5)]
                  (refine run ?_; repeat intro b)
                  rfl
                · rw [if_neg (of_decide_eq_false h5)]
                  (refine run ?_; repeat intro b)
                  rfl
              | some v =>
                dsimp only [Option.getD_some, Option.isSome_some]
                (refine run ?_; repeat intro b)
                refine s_loopP (fun k : Nat => k ≤ o.wanted.length ∧ jdg v o.had o.wanted 0 = jdg v o.had (o.wanted.drop k) k) (fun k => ⟨[(3, .loc 0 0), (15, .v (S v)), (106, .v (.slice p o.wanted.length c)), (107, .v (i64 (o.wanted.length : Nat))), (108, .v (i64 (k : Nat)))], F1, [(4, ⟨some b, [.v (i64 x.epoch), .v (u64 (x.root : Nat)), .v (u64 (x.prev : Nat)), .v (i64 x.at_)], 24, 4⟩), (1, ⟨some b4, [.v (i64 h.epoch), .v (u64 (h.root : Nat)), .v (u64 (h.prev : Nat)), .v (i64 h.at_), .v (S q.name), .v (.slice a.e q.ents.length a.ce), .v (.slice a.s q.sides.length a.cs)], 34, 7⟩), (0, ⟨some b0, [.v (S o.name), .v (u64 (o.key : Nat)), .v (i64 o.head.epoch), .v (u64 (o.head.root : Nat)), .v (u64 (o.head.prev : Nat)), .v (i64 o.head.at_), .v (.slice p o.wanted.length c), .v (i64 o.had)], 27, 8⟩)], 5⟩) (fun k => o.wanted.length - k) 0 ⟨Nat.zero_le _, rfl⟩ (VS.keepN [3, 15, 106, 107, 108] rfl (by rw [hnm]; rfl)) ?_
                rintro k ⟨hk, hj⟩
                by_cases hlt : k < o.wanted.length
                · have hget : Pcell F1 (padd p (k * 1)) = some (S o.wanted[k]) := by
                    have := frow_get (frow_sub hs1 hf) (j := k) (by simpa using hlt)
                    simpa using this
                  rw [jdg_drop hlt] at hj
                  generalize o.wanted[k] = w at hj hget
                  (refine run ?_; repeat intro b)
                  refine s_if true (by rw [← decide_eq_true (p := ((k : Nat) : Int) < ((o.wanted.length : Nat) : Int)) (by omega)]; rfl) (fun _ => ?_) (fun h => by cases h)
                  (refine run ?_; repeat intro b)
                  refine s_pureO rfl rfl rfl ⟨by omega, by omega, frow_some hf (j := k * 1) (by simpa using hlt)⟩ ?_
                  refine s_load (S w) rfl rfl rfl rfl (by rw [Int.toNat_natCast]; exact hget) ?_
                  (refine run ?_; repeat intro b)
                  rw [wrap_succ (by omega)]
                  refine s_if (decide (o.had ≤ (k : Int) + 1 ∧ w = v)) ?_ (fun h6 => ?_) (fun h6 => ?_)
                  · refine congrArg (fun b => some (EV.v (.bool b))) ?_
                    have q1 : decide (o.had ≤ ((k + 1 : Nat) : Int)) = decide (o.had ≤ (k : Int) + 1) := by rw [Bool.eq_iff_iff]; simp
                    rw [bpick_and, bl_S, bl_S, q1]
                    by_cases c1 : o.had ≤ (k : Int) + 1 <;> by_cases c2 : w = v <;> simp [c1, c2]
                  · rw [if_pos (of_decide_eq_true h6)] at hj
                    rw [hj, if_neg (by omega)]
                    (refine run ?_; repeat intro b)
                    rw [wrap_succ (by omega)]
                    rfl
                  · rw [if_neg (of_decide_eq_false h6)] at hj
                    (refine run ?_; repeat intro b)
                    rw [wrap_succ (by omega)]
                    exact s_loopPn (k + 1) ⟨hlt, hj⟩ (by omega) (VS.keepN [3, 15, 106, 107, 108] rfl rfl)
                · have hge : k = o.wanted.length := by omega
                  subst hge
                  rw [List.drop_length] at hj
                  have hj0 : jdg v o.had o.wanted 0 = 0 := hj
                  rw [hj0, if_pos rfl]
                  (refine run ?_; repeat intro b)
                  refine s_if false (by rw [← decide_eq_false (p := ((o.wanted.length : Nat) : Int) < ((o.wanted.length : Nat) : Int)) (by omega)]; rfl) (fun h => by cases h) (fun _ => ?_)
                  (refine run ?_; repeat intro b)
                  rfl
    · obtain ⟨y, hy⟩ : ∃ y, y = orN l.head? := ⟨_, rfl⟩
      obtain ⟨z, hzz⟩ : ∃ z, z = lastH l := ⟨_, rfl⟩
      rw [← hy] at o2
      rw [← hzz] at o4
      refine s_regiona [] (by kernel_rfl) ?_
      refine s_firsts [0, 1, 2, 3, 4, 5, 6, 7, 8] (f' := 4) (by kernel_rfl) rfl rfl rfl ?_
      (refine run ?_; repeat intro b)
      refine s_pureO rfl rfl rfl ⟨by omega, by omega, frow_some hfl (j := 0 * 4) (by rw [flat_len head_row]; omega)⟩ ?_
      refine s_loadA y.row rfl rfl rfl rfl rfl o1 o2 ?_
      (refine run ?_; repeat intro b)
      rw [ewl]
      refine s_pureO rfl rfl rfl ⟨by omega, by omega, frow_some hfl (j := (l.length - 1) * 4) (by rw [flat_len head_row]; omega)⟩ ?_
      refine s_loadA z.row rfl rfl rfl rfl rfl (by rw [Int.toNat_natCast]; exact o3) (by rw [Int.toNat_natCast]; exact o4) ?_
      (refine run ?_; repeat intro b)
      refine s_two 9 10 (by kernel_rfl) rfl rfl rfl ?_ ?_
      · (refine run ?_; repeat intro b)
        refine s_br (Hp.sub.refl _) trivial ?_
        refine s_one 10 (by kernel_rfl) rfl rfl ?_
        (refine run ?_; repeat intro b)
        refine s_br (Hp.sub.refl _) trivial ?_
        refine s_one 11 (by kernel_rfl) rfl rfl ?_
        (refine run ?_; repeat intro b)
        refine s_br (Hp.sub.refl _) trivial ?_
        refine s_one 12 (by kernel_rfl) rfl rfl ?_
        (refine run ?_; repeat intro b)
        refine s_br (Hp.sub.refl _) trivial ?_
        refine s_stop (by kernel_rfl) ?_
        (refine run ?_; repeat intro b)
        exact kn _ (VS.freeze 2 [1, 3, 5, 10, 11, 12] rfl rfl rfl rfl fun F1 hs1 hf1 => VS.freeze 3 [1, 3, 5, 10, 11, 12] rfl rfl rfl rfl fun F2 hs2 hf2 => VS.id ⟨(F2, _, _), ⟨hs1.trans hs2, by rw [← hy]; exact frow_sub hs2 hf1, by rw [← hzz]; exact hf2⟩, rfl⟩)
      · (refine run ?_; repeat intro b)
        refine s_br (Hp.sub.refl _) trivial ?_
        refine s_one 9 (by kernel_rfl) rfl rfl ?_
        (refine run ?_; repeat intro b)
        refine s_br (Hp.sub.refl _) trivial ?_
        refine s_one 11 (by kernel_rfl) rfl rfl ?_
        (refine run ?_; repeat intro b)
        refine s_br (Hp.sub.refl _) trivial ?_
        refine s_one 12 (by kernel_rfl) rfl rfl ?_
        (refine run ?_; repeat intro b)
        refine s_br (Hp.sub.refl _) trivial ?_
        refine s_stop (by kernel_rfl) ?_
        (refine run ?_; repeat intro b)
        exact kn _ (VS.freeze 3 [1, 3, 5, 10, 11, 12] rfl rfl rfl rfl fun F1 hs1 hf1 => VS.freeze 2 [1, 3, 5, 10, 11, 12] rfl rfl rfl rfl fun F2 hs2 hf2 => VS.id ⟨(F2, _, _), ⟨hs1.trans hs2, by rw [← hy]; exact frow_sub hs2 hf1, by rw [← hzz]; exact hf2⟩, rfl⟩)
  · have e : linkK o.head l = 2 := by unfold linkK; rw [if_pos hz]
    obtain ⟨e1, e2⟩ := verd_bad (o := o) (h := h) (q := q) (by decide) e
    rw [e1, e2]
    refine s_if true ?_ (fun _ => ?_) (fun h => by cases h)
    · exact congrArg (fun b => some (EV.v (.bool b))) (bne_iff_ne.2 hz)
    (refine run ?_; repeat intro b)
    rfl
end Go.Proofs.YteahoodopphacaaGreat
