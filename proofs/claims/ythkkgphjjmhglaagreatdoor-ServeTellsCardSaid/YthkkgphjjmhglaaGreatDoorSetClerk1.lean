/-
Package tree: At, Root; tallyrollref.GoodPrefix, PrefixMark: the walks.
-/
import Derived.Test.YthkkgphjjmhglaaGreatDoorTreeAt
import Derived.Test.YthkkgphjjmhglaaGreatDoorTrim
import Derived.Test.YthkkgphjjmhglaaGreatDoorSetClerkTick
/-!
Package tree: At, Root; tallyrollref.GoodPrefix, PrefixMark: the walks.
-/
namespace Go.Proofs.YthkkgphjjmhglaaGreatDoor
set_option linter.unusedVariables false
set_option linter.unusedSimpArgs false
open Go.TR
/-- Is it a prefix of a path's form? -/
def goodPre (s : List UInt8) : Bool := s.all (inS [48, 49]) && decide (s.length ≤ 16)
/-- The mark at a prefix, or an error. -/
def atE (l : List Entry) (s : List UInt8) : Int := if bookFault l ≠ 0 then bookFault l else if goodPre s = true then 0 else 3
def atO (l : List Entry) (s : List UInt8) : Nat := if atE l s = 0 then lvlN l s else 0
theorem at_bad {l : List Entry} {s : List UInt8} {e : Int} (h : atE l s = e) (he : e ≠ 0) : atO l s = 0 := by unfold atO; rw [h, if_neg he]
theorem atE_fault {l : List Entry} (s : List UInt8) (h : bookFault l ≠ 0) : atE l s = bookFault l := if_pos h
theorem atE_book {l : List Entry} (s : List UInt8) (h : bookFault l = 0) : atE l s = if goodPre s = true then 0 else 3 := if_neg (by rw [h]; decide)
theorem at_good {l : List Entry} {s : List UInt8} (h : bookFault l = 0) (hs : goodPre s = true) : atE l s = 0 ∧ atO l s = lvlN l s := by
  have e : atE l s = 0 := by rw [atE_book s h, if_pos hs]
  exact ⟨e, by unfold atO; rw [if_pos e]⟩
theorem at_form {l : List Entry} {s : List UInt8} (h : bookFault l = 0) (hs : goodPre s = false) : atE l s = 3 ∧ atO l s = 0 := by
  have e : atE l s = 3 := by rw [atE_book s h, if_neg (by rw [hs]; decide)]
  exact ⟨e, at_bad e (by decide)⟩
theorem goodPre_nil : goodPre [] = true := by decide
theorem goodPre_len {s : List UInt8} (h : goodPre s = true) : s.length ≤ 16 := by
  unfold goodPre at h
  rw [Bool.and_eq_true] at h
  exact of_decide_eq_true h.2
theorem goodPre_trim (s : List UInt8) : (decide (16 < s.length) || !decide (trimL (inS [48, 49]) (trimR (inS [48, 49]) s) = [])) = !goodPre s := by
  unfold goodPre
  rw [Bool.eq_iff_iff]
  simp only [Bool.or_eq_true, decide_eq_true_eq, Bool.not_eq_true', decide_eq_false_iff_not, Bool.and_eq_false_iff, trim_nil]
  cases s.all (inS [48, 49]) <;> simp <;> omega
theorem at_lvlN {l : List Entry} {s : List UInt8} (hg : ∀ x ∈ l, goodName x.name = true) (h : s.length ≤ 16) : atN (16 - s.length) (undN l s) s = lvlN l s := atN_lvl hg _ s (by omega)
attribute [local irreducible] vc vcOps seqK blockK loopK retK retG retI loopV Plain CallOK CallIn bodied VS vcAny dropG backK brK loopPK IntKind.wrap
attribute [local irreducible] goodPre inS trimL trimR bookFault lvlN lvlM begun atN undN noneM markN
set_option maxRecDepth 100000
set_option maxHeartbeats 2000000
theorem treeAt_ok (l : List Entry) (s : List UInt8) (hl : l.length ≤ 4611686018427387904) (hw : ∀ x ∈ l, x.wf) (hs : s.length ≤ 4611686018427387904) {p : Option Addr} {c : Nat} {F : Hp} (hf : Frow F p (l.flatMap Entry.row)) : Plain Tryz.prog F 81 [.slice p l.length c, S s] (pair (mu (atO l s)) (i64 (atE l s))) := by
  refine plain_vc (N := 25) (rv := [.tmp 4, .tmp 5]) tbok mixed Tryz.func81 rfl rfl rfl rfl rfl ?_
  (refine run ?_; repeat intro b)
  refine s_plain _ rfl rfl rfl bd82 rfl (treecheck_ok l hl hw hf) ?_
  rcases bookFault_cases l with h0 | h0 | h0
  · obtain ⟨h24, hgood, _⟩ := bookFault_zero h0
    rw [h0]
    (refine run ?_; repeat intro b)
    refine s_gplain _ rfl rfl rfl rfl bd125 rfl rfl (fun _ => trim_ok s hs F) ?_
    (refine run ?_; repeat intro b)
    refine s_if (!goodPre s) ?_ (fun h => ?_) (fun h => ?_)
    · refine congrArg (fun b => some (EV.v (.bool b))) ?_
      rw [bpick_or, ← goodPre_trim]
      have e1 : decide ((16 : Int) < (((bl (mkB s)).length : Nat) : Int)) = decide (16 < s.length) := by rw [decide_eq_decide, bl_S]; omega
      rw [e1]
      rfl
    · rw [Bool.not_eq_true'] at h
      obtain ⟨e1, e2⟩ := at_form h0 h
      rw [e1, e2]
      (refine run ?_; repeat intro b)
      rfl
    · rw [Bool.not_eq_false'] at h
      obtain ⟨e1, e2⟩ := at_good (s := s) h0 h
      rw [e1, e2]
      have h16 := goodPre_len h
      (refine run ?_; repeat intro b)
      refine s_callF rfl rfl rfl bd127 rfl (under_ok l s h24 hw hf) ?_
      rintro _ F1 hF1 ⟨p1, c1, rfl, hf1⟩
      (refine run ?_; repeat intro b)
      have hul := undN_len l s
      refine s_plain _ rfl rfl rfl bd126 rfl (treeat_ok (16 - s.length) (undN l s) s (by omega) (by omega) (fun x hx => hw x (undN_sub hx)) hf1) ?_
      rw [at_lvlN (fun x hx => (hgood x hx).1) h16]
      (refine run ?_; repeat intro b)
      rfl
  · rw [atE_fault s (by rw [h0]; decide), at_bad (atE_fault s (by rw [h0]; decide)) (by rw [h0]; decide), h0]
    (refine run ?_; repeat intro b)
    rfl
  · rw [atE_fault s (by rw [h0]; decide), at_bad (atE_fault s (by rw [h0]; decide)) (by rw [h0]; decide), h0]
    (refine run ?_; repeat intro b)
    rfl
theorem treeroot_ok (l : List Entry) (hl : l.length ≤ 4611686018427387904) (hw : ∀ x ∈ l, x.wf) {p : Option Addr} {c : Nat} {F : Hp} (hf : Frow F p (l.flatMap Entry.row)) : Plain Tryz.prog F 57 [.slice p l.length c] (pair (mu (atO l [])) (i64 (atE l []))) := by
  refine plain_vc (N := 8) (rv := [.tmp 2, .tmp 3]) tbok mixed Tryz.func57 rfl rfl rfl rfl rfl ?_
  (refine run ?_; repeat intro b)
  refine s_plain _ rfl rfl rfl bd81 rfl (treeAt_ok l [] hl hw (by decide) hf) ?_
  (refine run ?_; repeat intro b)
  rfl
theorem prefixmark_ok (l : List Entry) (s : List UInt8) (hl : l.length ≤ 24) (hw : ∀ x ∈ l, x.wf) {p : Option Addr} {c : Nat} {F : Hp} (hf : Frow F p (l.flatMap Entry.row)) : Plain Tryz.prog F 51 [.slice p l.length c, S s] (mu (lvlN l s)) := by
  refine plain_vc (N := 17) (rv := [.tmp 4]) tbok mixed Tryz.func51 rfl rfl rfl rfl rfl ?_
  (refine run ?_; repeat intro b)
  refine s_callF rfl rfl rfl bd55 rfl (levels_ok l hl hw hf) ?_
  rintro _ F1 hF1 ⟨b0, es, clock, rfl, hb, hM⟩
  (refine run ?_; repeat intro b)
  refine s_lookup (lvlM l (begun l)) s und_map und_key rfl rfl zero_u64 rfl hb hM ?_
  rw [if_pos rfl]
  cases hg : begun l s with
  | true =>
    rw [lvlM_yes hg]
    (refine run ?_; repeat intro b)
    rfl
  | false =>
    rw [lvlM_no hg, lvlN_none hg]
    (refine run ?_; repeat intro b)
    refine s_plain _ rfl rfl rfl bd22 rfl (refmark_none F1) ?_
    (refine run ?_; repeat intro b)
    rfl
end Go.Proofs.YthkkgphjjmhglaaGreatDoor
/-!
Package clerk: span, last, closed, books: the walks.
-/
namespace Go.Proofs.YthkkgphjjmhglaaGreatDoor
set_option linter.unusedVariables false
set_option linter.unusedSimpArgs false
open Go.TR
theorem bks_len {bs : List Bk} {l : List (List Entry)} (h : bs.map (·.2.1) = l) : bs.length = l.length := by rw [← h, List.length_map]
theorem bk_get {bs : List Bk} {l : List (List Entry)} (h : bs.map (·.2.1) = l) {k : Nat} (hk : k < l.length) : ∃ s : Bk, bs[k]? = some s ∧ s.2.1 = l[k] ∧ s ∈ bs := by
  have hl := bks_len h
  have hk' : k < bs.length := by omega
  refine ⟨bs[k], List.getElem?_eq_getElem hk', ?_, List.getElem_mem hk'⟩
  subst h
  simp
theorem bk_cell {F : Hp} {p : Option Addr} {bs : List Bk} (h : Frow F p (bs.map Bk.v)) {k : Nat} {s : Bk} (hk : bs[k]? = some s) : Pcell F (padd p k) = some s.v := h k _ (by rw [List.getElem?_map, hk]; rfl)
theorem rootsF_drop {hs : List Head} {bs : List (List Entry)} {k : Nat} (h1 : k < hs.length) (h2 : k < bs.length) : rootsF (hs.drop k) (bs.drop k) = if bookFault bs[k] ≠ 0 then bookFault bs[k] else if lvlN bs[k] [] ≠ hs[k].root then 8 else rootsF (hs.drop (k + 1)) (bs.drop (k + 1)) := by
  rw [List.drop_eq_getElem_cons h1, List.drop_eq_getElem_cons h2]
  rfl
theorem rootsF_nil (hs : List Head) : rootsF hs [] = 0 := by cases hs <;> rfl
theorem lastB_get {c : Clerk} (h : 0 < c.books.length) : lastB c = c.books[c.books.length - 1] := by
  unfold lastB
  rw [List.getLastD_eq_getLast?, List.getLast?_eq_getElem?, List.getElem?_eq_getElem (by omega)]
  rfl
attribute [local irreducible] vc vcOps seqK blockK loopK retK retG retI loopV Plain CallOK CallIn bodied VS vcAny dropG backK brK loopPK IntKind.wrap
attribute [local irreducible] bookFault lvlN rootsF lastB lastH
set_option maxRecDepth 100000
set_option maxHeartbeats 4000000
theorem span_ok (n m : Int) (F : Hp) : Plain Tryz.prog F 56 [i64 n, i64 m] (.bool (decide (1 ≤ n) && decide (n ≤ m))) := by
  refine plain_vc (N := 12) (rv := [.tmp 4]) tbok mixed Tryz.func56 rfl rfl rfl rfl rfl ?_
  (refine run ?_; repeat intro b)
  rw [bpick_and]
  rfl
theorem last_ok (c : Clerk) (a : CLay) (bs : List Bk) (h0 : 0 < c.books.length) (hn : c.books.length ≤ 8796093022208) (hb : bs.map (·.2.1) = c.books) {F : Hp} (hf : Frow F a.b (bs.map Bk.v)) : ∃ s : Bk, s ∈ bs ∧ s.2.1 = lastB c ∧ Plain Tryz.prog F 65 [c.v a] s.v := by
  obtain ⟨s, h1, h2, h3⟩ := bk_get hb (k := c.books.length - 1) (by omega)
  refine ⟨s, h3, by rw [h2, lastB_get h0], ?_⟩
  have hc := bk_cell hf h1
  have ew : IntKind.i64.wrap (((c.books.length : Nat) : Int) - 1) = ((c.books.length - 1 : Nat) : Int) := by rw [wrap_i64 (by omega) (by omega)]; omega
  refine plain_vc (N := 11) (rv := [.tmp 2]) tbok mixed Tryz.func65 rfl rfl rfl rfl rfl ?_
  (refine run ?_; repeat intro b)
  rw [ew]
  refine s_pureO rfl rfl rfl ⟨by omega, by omega, frow_some hf (j := c.books.length - 1) (by rw [List.length_map, bks_len hb]; omega)⟩ ?_
  refine s_load s.v rfl rfl rfl rfl (by rw [Int.toNat_natCast, Nat.mul_one]; exact hc) ?_
  (refine run ?_; repeat intro b)
  rfl
theorem books_ok (c : Clerk) (a : CLay) (hw : c.wf) (h0 : 0 < c.heads.length) {F : Hp} (ha : c.at F a) : Plain Tryz.prog F 74 [c.v a] (i64 (booksF c)) := by
  obtain ⟨bs, hb, hfb, hbs⟩ := ha.b
  have hhl := hw.hlen
  have hlh := lastH_get h0
  have eH0 : (c.heads.getD 0 Head.none).epoch = c.heads[0].epoch := by simp [List.getD, h0]
  have eF : formB c = (!(c.heads[0].epoch == 0) || (decide (c.books.length ≠ c.heads.length) || decide (c.now < c.heads[c.heads.length - 1].at_))) := by
    unfold formB
    rw [eH0, hlh, Bool.or_assoc]
    congr 1
    rw [Bool.eq_iff_iff]; simp
  obtain ⟨o1, o2⟩ := frow_agg head_row (by decide) ha.h 0 h0
  obtain ⟨o3, o4⟩ := frow_agg head_row (by decide) ha.h (c.heads.length - 1) (by omega)
  have ew : IntKind.i64.wrap (((c.heads.length : Nat) : Int) - 1) = ((c.heads.length - 1 : Nat) : Int) := by rw [wrap_i64 (by omega) (by omega)]; omega
  have hB : booksF c = if formB c = true then 3 else rootsF c.heads c.books := rfl
  rw [eF] at hB
  generalize c.heads[0] = ha0 at *
  generalize c.heads[c.heads.length - 1] = hl0 at *
  refine plain_vc (N := 63) (rv := [.tmp 2]) tbok mixed Tryz.func74 rfl rfl rfl rfl rfl ?_
  (refine run ?_; repeat intro b)
  refine s_regiond (by kernel_rfl) ?_
  (refine run ?_; repeat intro b)
  refine s_pureO rfl rfl rfl ⟨by omega, by omega, frow_some ha.h (j := 0) (by rw [flat_len head_row]; omega)⟩ ?_
  (refine run ?_; repeat intro b)
  refine s_pureO rfl rfl rfl o1 ?_
  (refine run ?_; repeat intro b)
  refine s_load (i64 ha0.epoch) rfl rfl rfl rfl (o2 0 (by decide)) ?_
  (refine run ?_; repeat intro b)
  rw [ew]
  refine s_gpureO rfl rfl rfl rfl rfl (fun _ => ⟨by omega, by omega, frow_some ha.h (j := (c.heads.length - 1) * 4) (by rw [flat_len head_row]; omega)⟩) ?_
  (refine run ?_; repeat intro b)
  refine s_gpureO rfl rfl rfl rfl rfl (fun _ => by rw [Int.toNat_natCast]; exact o3) ?_
  (refine run ?_; repeat intro b)
  refine s_gload (i64 hl0.at_) rfl rfl rfl rfl rfl rfl (fun _ => by rw [Int.toNat_natCast]; exact o4 3 (by decide)) ?_
  (refine run ?_; repeat intro b)
  refine s_if (formB c) ?_ (fun h => ?_) (fun h => ?_)
  · refine congrArg (fun b => some (EV.v (.bool b))) ?_
    rw [bpick_or, bpick_or, eF, Bool.or_assoc]
    congr 1
    congr 1
    rw [Bool.eq_iff_iff]; simp; omega
  · rw [eF] at h
    rw [if_pos h] at hB
    rw [hB]
    (refine run ?_; repeat intro b)
    rfl
  · rw [eF] at h
    rw [if_neg (by rw [h]; decide)] at hB
    have hlen : c.books.length = c.heads.length := by
      simp only [Bool.or_eq_false_iff, decide_eq_false_iff_not, ne_eq, Classical.not_not] at h
      exact h.2.1
    rw [hB]
    have h64 := hw.hlen
    (refine run ?_; repeat intro b)
    refine s_loopP (fun k : Nat => k ≤ c.books.length ∧ rootsF (c.heads.drop k) (c.books.drop k) = rootsF c.heads c.books) (fun k => ⟨[(1, .loc 0 0), (37, .v (.slice a.b c.books.length a.cb)), (38, .v (i64 (c.books.length : Nat))), (39, .v (i64 (k : Nat)))], F, [(0, ⟨some b, [.v (i64 c.queue.most), .v (.slice a.w c.queue.wait.length a.cw), .v (i64 c.batch), .v (i64 c.every), .v (i64 c.now), .v (.slice a.h c.heads.length a.ch), .v (.slice a.b c.books.length a.cb)], 28, 7⟩)], 1⟩) (fun k => c.books.length - k) 0 ⟨Nat.zero_le _, rfl⟩ (VS.keepN [1, 37, 38, 39] rfl rfl) ?_
    rintro k ⟨hk, hr⟩
    by_cases hlt : k < c.books.length
    · have hst := rootsF_drop (hs := c.heads) (bs := c.books) (k := k) (by omega) hlt
      rw [hr] at hst
      obtain ⟨⟨ps, ls, cs⟩, k1, k2, k3⟩ := bk_get hb hlt
      have kc := bk_cell hfb k1
      have hat := hbs _ k3
      have hwl := hw.books c.books[k] (List.getElem_mem hlt)
      obtain ⟨o5, o6⟩ := frow_agg head_row (by decide) ha.h k (by omega)
      simp only at k2 hat
      rw [← k2] at hst hwl
      generalize c.heads[k]'(by omega) = hk0 at *
      (refine run ?_; repeat intro b)
      refine s_if true (by rw [← decide_eq_true (p := ((k : Nat) : Int) < ((c.books.length : Nat) : Int)) (by omega)]; rfl) (fun _ => ?_) (fun h => by cases h)
      (refine run ?_; repeat intro b)
      refine s_pureO rfl rfl rfl ⟨by omega, by omega, frow_some hfb (j := k) (by rw [List.length_map, bks_len hb]; omega)⟩ ?_
      refine s_load (Bk.v (ps, ls, cs)) rfl rfl rfl rfl (by rw [Int.toNat_natCast, Nat.mul_one]; exact kc) ?_
      (refine run ?_; repeat intro b)
      refine s_plain _ rfl rfl rfl bd57 rfl (treeroot_ok ls (by omega) hwl.2 hat.2) ?_
      rcases bookFault_cases ls with f0 | f0 | f0
      · obtain ⟨r1, r2⟩ := at_good f0 goodPre_nil
        rw [f0, if_neg (by decide)] at hst
        rw [r1, r2]
        (refine run ?_; repeat intro b)
        refine s_pureO rfl rfl rfl ⟨by omega, by omega, frow_some ha.h (j := k * 4) (by rw [flat_len head_row]; omega)⟩ ?_
        (refine run ?_; repeat intro b)
        refine s_pureO rfl rfl rfl (by rw [Int.toNat_natCast]; exact o5) ?_
        (refine run ?_; repeat intro b)
        refine s_load (u64 (hk0.root : Nat)) rfl rfl rfl rfl (by rw [Int.toNat_natCast]; exact o6 1 (by decide)) ?_
        (refine run ?_; repeat intro b)
        refine s_if (decide (lvlN ls [] ≠ hk0.root)) ?_ (fun g => ?_) (fun g => ?_)
        · refine congrArg (fun b => some (EV.v (.bool b))) ?_
          rw [Bool.eq_iff_iff]; simp; omega
        · rw [if_pos (of_decide_eq_true g)] at hst
          rw [hst]
          (refine run ?_; repeat intro b)
          rfl
        · rw [if_neg (of_decide_eq_false g)] at hst
          (refine run ?_; repeat intro b)
          rw [wrap_succ (by omega)]
          exact s_loopPn (k + 1) ⟨hlt, hst.symm⟩ (by omega) (VS.keepN [1, 37, 38, 39] rfl rfl)
      · have r1 := atE_fault (l := ls) [] (by rw [f0]; decide)
        have r2 := at_bad r1 (by rw [f0]; decide)
        rw [f0, if_pos (by decide)] at hst
        rw [hst, r1, r2, f0]
        (refine run ?_; repeat intro b)
        rfl
      · have r1 := atE_fault (l := ls) [] (by rw [f0]; decide)
        have r2 := at_bad r1 (by rw [f0]; decide)
        rw [f0, if_pos (by decide)] at hst
        rw [hst, r1, r2, f0]
        (refine run ?_; repeat intro b)
        rfl
    · have hge : k = c.books.length := by omega
      have hz : rootsF c.heads c.books = 0 := by
        rw [← hr, hge, List.drop_length, rootsF_nil]
      rw [hz]
      (refine run ?_; repeat intro b)
      refine s_if false (by rw [← decide_eq_false (p := ((k : Nat) : Int) < ((c.books.length : Nat) : Int)) (by omega)]; rfl) (fun h => by cases h) (fun _ => ?_)
      (refine run ?_; repeat intro b)
      rfl
end Go.Proofs.YthkkgphjjmhglaaGreatDoor
