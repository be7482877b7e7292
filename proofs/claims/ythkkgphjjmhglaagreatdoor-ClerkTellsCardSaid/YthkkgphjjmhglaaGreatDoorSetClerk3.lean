/-
Package clerk: copied: the walk.
-/
import Derived.Test.YthkkgphjjmhglaaGreatDoorSetClerk1
import Derived.Test.YthkkgphjjmhglaaGreatDoorSetBits
import Derived.Test.YthkkgphjjmhglaaGreatDoorSetPathMath
import Derived.Test.YthkkgphjjmhglaaGreatDoorSetTreeSet
import Derived.Test.YthkkgphjjmhglaaGreatDoorSetFwY
import Derived.Test.YthkkgphjjmhglaaGreatDoorSetClerkNames
/-!
Package clerk: copied: the walk.
-/
namespace Go.Proofs.YthkkgphjjmhglaaGreatDoor
set_option linter.unusedVariables false
set_option linter.unusedSimpArgs false
open Go.TR
/-- Small enough to be copied. -/
structure Small (c : Clerk) : Prop where
  wait : c.queue.wait.length ≤ 30
  heads : c.heads.length ≤ 40
  books : c.books.length ≤ 40
  each : ∀ l ∈ c.books, l.length ≤ 24
theorem Good.small {c : Clerk} (h : Good c) : Small c := by
  obtain ⟨q1, q2, q3, _⟩ := queue_zero h.queue
  obtain ⟨l1, l2, l3⟩ := h.lens
  exact ⟨by omega, l3, by omega, fun l hl => (bookFault_zero (h.book l hl)).1⟩
attribute [local irreducible] vc vcOps seqK blockK loopK retK retG retI loopV Plain CallOK CallIn bodied VS vcAny dropG backK brK loopPK IntKind.wrap
attribute [local irreducible] bookFault lvlN rootsF lastB lastH
set_option maxRecDepth 100000
set_option maxHeartbeats 4000000
theorem ccopied_ok (c : Clerk) (a : CLay) (hw : c.wf) (hS : Small c) {F : Hp} (ha : c.at F a) : CallF Tryz.prog F 62 [c.v a] (fun x F' => ∃ a', x = c.v a' ∧ c.at F' a' ∧ a'.cb = c.books.length) := by
  obtain ⟨bs, hb, hfb, hbs⟩ := ha.b
  have hbl := bks_len hb
  have s1 := hS.wait
  have s2 := hS.heads
  have s3 := hS.books
  refine CallOK.drop (call_vc (N := 37) (rv := [.cell 2 28]) tbok mixed Tryz.func62 rfl rfl rfl rfl rfl ?_)
  (refine run ?_; repeat intro b)
  refine s_callF rfl rfl rfl bd111 rfl (clone_askF c.queue.wait c.queue.wait.length rfl ha.w (by omega)) ?_
  rintro _ F1 hF1 ⟨pw, cw, rfl, hcw, hfw⟩
  (refine run ?_; repeat intro b)
  refine s_callF rfl rfl rfl bd101 rfl (CallOK.frz (fun h => by rw [List.eq_nil_of_length_eq_zero h]; rfl) (clone_head (c.heads.flatMap Head.row) c.heads.length (flat_len head_row _) (frow_sub hF1 ha.h) (head_one _) (by omega))) ?_
  rintro _ F2 hF2 ⟨ph, ch, rfl, hch, hfh⟩
  have hF12 := hF1.trans hF2
  (refine run ?_; repeat intro b)
  refine s_make tbok rfl rfl rfl rfl rfl (by show _ * 24 ≤ _; omega) (by omega) (fun b3 vs hvs hvz => ?_)
  (refine run ?_; repeat intro b)
  rename_i b0
  revert b; intro b1
  have hvl : vs.length = c.books.length := by rw [hvs]; exact Nat.mul_one _
  refine s_loopP (fun q : Nat × List Bk × Hp => q.1 ≤ c.books.length ∧ F2.sub q.2.2 ∧ q.2.1.map (·.2.1) = c.books.take q.1 ∧ ∀ s ∈ q.2.1, Bk.at q.2.2 s)
    (fun q => ⟨[(1, .loc 0 0), (2, .loc 1 0), (3, .row 2 0 c.books.length c.books.length), (21, .v (.slice a.b c.books.length a.cb)), (22, .v (i64 (c.books.length : Nat))), (23, .v (i64 (q.1 : Nat)))], q.2.2,
      [(2, ⟨some b3, (q.2.1.map Bk.v).map .v ++ (vs.drop q.1).map .v, 32, c.books.length * 1⟩),
       (1, ⟨some b1, [.v (i64 0), .v (.slice none 0 0), .v (i64 0), .v (i64 0), .v (i64 0), .v (.slice none 0 0), .v (.slice none 0 0)], 28, 7⟩),
       (0, ⟨some b0, [.v (i64 c.queue.most), .v (.slice pw c.queue.wait.length cw), .v (i64 c.batch), .v (i64 c.every), .v (i64 c.now), .v (.slice ph c.heads.length ch), .v (.slice a.b c.books.length a.cb)], 28, 7⟩)], 3⟩)
    (fun q => c.books.length - q.1) (0, [], F2) ⟨Nat.zero_le _, fun _ _ h => h, rfl, fun s hs => by cases hs⟩ (VS.keepN [1, 2, 3, 21, 22, 23] rfl rfl) ?_
  rintro ⟨k, ds, G⟩ ⟨hk, hG, hds, hda⟩
  dsimp only at hk hG hds hda ⊢
  have hdl : ds.length = k := by
    have := congrArg List.length hds
    rw [List.length_map, List.length_take] at this
    omega
  have hFG := hF12.trans hG
  by_cases hlt : k < c.books.length
  · obtain ⟨⟨ps, ls, cs⟩, k1, k2, k3⟩ := bk_get hb hlt
    have kc := pcell_sub hFG (bk_cell hfb k1)
    have hat := Bk.at_sub hFG (hbs _ k3)
    have h24 := hS.each c.books[k] (List.getElem_mem hlt)
    have htk : c.books.take (k + 1) = c.books.take k ++ [c.books[k]] := List.take_succ_eq_append_getElem hlt
    simp only at k2 hat
    rw [← k2] at h24 htk
    (refine run ?_; repeat intro b)
    refine s_if true (by rw [← decide_eq_true (p := ((k : Nat) : Int) < ((c.books.length : Nat) : Int)) (by omega)]; rfl) (fun _ => ?_) (fun h => by cases h)
    (refine run ?_; repeat intro b)
    refine s_pureO rfl rfl rfl ⟨by omega, by omega, frow_some (frow_sub hFG hfb) (j := k) (by rw [List.length_map, hbl]; omega)⟩ ?_
    refine s_load (Bk.v (ps, ls, cs)) rfl rfl rfl rfl (by rw [Int.toNat_natCast, Nat.mul_one]; exact kc) ?_
    (refine run ?_; repeat intro b)
    refine s_callF rfl rfl rfl bd31 rfl (CallOK.frz (fun h => by rw [List.eq_nil_of_length_eq_zero h]; rfl) (clone_entry (ls.flatMap Entry.row) ls.length (flat_len entry_row _) hat.2 (entry_one _) (by omega))) ?_
    rintro _ G2 hG2 ⟨p2, c2, rfl, hc2, hf2⟩
    (refine run ?_; repeat intro b)
    refine s_pureO rfl rfl rfl ⟨by omega, by omega, _, _, rfl, rfl⟩ ?_
    have hidx : (0 + ((k : Int).toNat) * 1) = k := by omega
    refine s_storeX (((ds ++ [(p2, ls, c2)]).map Bk.v).map EV.v ++ (vs.drop (k + 1)).map EV.v) rfl rfl rfl rfl rfl rfl ?_ ?_ rfl ?_
    · show 0 + ((k : Int).toNat) * 1 + 1 ≤ ((ds.map Bk.v).map EV.v ++ (vs.drop k).map EV.v).length
      simp only [List.length_append, List.length_map, List.length_drop]
      omega
    · show ((ds.map Bk.v).map EV.v ++ (vs.drop k).map EV.v).take (0 + ((k : Int).toNat) * 1) ++ [_] ++ ((ds.map Bk.v).map EV.v ++ (vs.drop k).map EV.v).drop (0 + ((k : Int).toNat) * 1 + 1) = _
      have hvk : (vs.drop k).map EV.v = [EV.v (vs[k]'(by omega))] ++ (vs.drop (k + 1)).map EV.v := by rw [List.drop_eq_getElem_cons (by omega)]; rfl
      rw [hidx, hvk, store_seg _ _ _ _ (n := k) (k := 1) (by rw [List.length_map, List.length_map, hdl]) rfl]
      simp
    (refine run ?_; repeat intro b)
    rw [wrap_succ (by omega)]
    exact s_loopPn (k + 1, ds ++ [(p2, ls, c2)], G2) ⟨hlt, hG.trans hG2, by rw [htk, List.map_append, hds]; rfl, fun s hs => by
      rcases List.mem_append.1 hs with hs | hs
      · exact Bk.at_sub hG2 (hda s hs)
      · rw [List.mem_singleton.1 hs]; exact ⟨trivial, hf2⟩⟩ (by simp only; omega) (VS.keepN [1, 2, 3, 21, 22, 23] rfl rfl)
  · have hge : k = c.books.length := by omega
    (refine run ?_; repeat intro b)
    refine s_if false (by rw [← decide_eq_false (p := ((k : Nat) : Int) < ((c.books.length : Nat) : Int)) (by omega)]; rfl) (fun h => by cases h) (fun _ => ?_)
    have hdr : vs.drop k = [] := List.drop_eq_nil_of_le (by omega)
    rw [hdr]
    rw [hge, List.take_length] at hds
    have hcells : (ds.map Bk.v).map EV.v ++ ([] : List Value).map EV.v = (ds.map Bk.v).map EV.v := List.append_nil _
    (refine run ?_; repeat intro b)
    refine s_retG ?_
    refine VS.freeze 2 [2] rfl (cs := ds.map Bk.v) ((congrArg (allV _) hcells).trans (allV_map_v _)) rfl rfl fun G2 hG2 hf2 => VS.id ⟨_, rfl, ⟨pw, cw, ph, ch, some ⟨b3, 0, none⟩, c.books.length⟩, rfl, ⟨frow_sub (hF2.trans (hG.trans hG2)) hfw, hcw, frow_sub (hG.trans hG2) hfh, hch, Nat.le_refl _, ds, hds, hf2, fun s hs => Bk.at_sub hG2 (hda s hs)⟩, rfl⟩
end Go.Proofs.YthkkgphjjmhglaaGreatDoor
/-!
Package clerk: Check: the walk.
-/
namespace Go.Proofs.YthkkgphjjmhglaaGreatDoor
set_option linter.unusedVariables false
set_option linter.unusedSimpArgs false
open Go.TR
theorem chain_pos {l : List Head} (h : (chainF l).1 = 0) : 0 < l.length := (chainF_zero h).1
theorem booksF_zero {c : Clerk} (h : booksF c = 0) : formB c = false ∧ rootsF c.heads c.books = 0 := by
  unfold booksF at h
  cases hf : formB c with
  | true => rw [hf] at h; cases h
  | false => rw [hf] at h; exact ⟨rfl, h⟩
theorem clerkF_names {c : Clerk} (h1 : queueFault c.queue = 0) (h2 : spanB c = false) (h3 : (chainF c.heads).1 = 0) (h4 : booksF c = 0) : clerkF c = if 24 < namesN c [] then 7 else 0 := by
  unfold clerkF
  rw [if_neg (by rw [h1]; decide), h2, if_neg (by decide), if_neg (by rw [h3]; decide), if_neg (by rw [h4]; decide)]
theorem pre_small {c : Clerk} (h1 : queueFault c.queue = 0) (h3 : (chainF c.heads).1 = 0) (h4 : booksF c = 0) : Small c ∧ 0 < c.books.length := by
  obtain ⟨f1, f2⟩ := booksF_zero h4
  obtain ⟨q1, q2, q3, _⟩ := queue_zero h1
  obtain ⟨c1, c2, _⟩ := chainF_zero h3
  have e : c.books.length = c.heads.length := by
    unfold formB at f1
    simp only [Bool.or_eq_false_iff, decide_eq_false_iff_not, ne_eq, Classical.not_not] at f1
    exact f1.1.2
  refine ⟨⟨by omega, c2, by omega, fun l hl => (bookFault_zero (rootsF_zero (by omega) f2 l hl)).1⟩, by omega⟩
theorem names_len {c : Clerk} (hS : Small c) (h0 : 0 < c.books.length) (more : List (List UInt8)) (hm : more.length ≤ 1) : (namesL c more).length ≤ 1000000 := by
  have h1 := hS.each _ (lastB_mem h0)
  have h2 := hS.wait
  unfold namesL
  simp only [List.length_append, List.length_map]
  omega
theorem names_at (c : Clerk) (a : CLay) (more : List (List UInt8)) (hw : c.wf) (hS : Small c) (h0 : 0 < c.books.length) (hml : more.length ≤ 1) (hm : ∀ s ∈ more, s.length ≤ 4611686018427387904) {F : Hp} (ha : c.at F a) {pm : Option Addr} {cm : Nat} (hfm : Frow F pm (more.map S)) :
    Plain Tryz.prog F 61 [c.v a, .slice pm more.length cm] (i64 ((namesN c more : Nat) : Int)) := by
  obtain ⟨bs, h1, h2, h3⟩ := ha.b
  exact names_ok c a bs more hw h0 h1 (names_len hS h0 more hml) hm ha.w h2 h3 hfm
theorem spanB_eq (c : Clerk) : ((((!(decide (1 ≤ c.batch) && decide (c.batch ≤ 30))) || (!(decide (1 ≤ c.every) && decide (c.every ≤ 1000)))) || decide (c.now < 0)) || decide (1000000000 < c.now)) = spanB c := by
  unfold spanB
  rw [Bool.eq_iff_iff]
  simp only [Bool.or_eq_true, Bool.not_eq_true', Bool.and_eq_false_iff, decide_eq_false_iff_not, decide_eq_true_eq]
  omega
attribute [local irreducible] vc vcOps seqK blockK loopK retK retG retI loopV Plain CallOK CallIn bodied VS vcAny dropG backK brK loopPK IntKind.wrap
attribute [local irreducible] bookFault lvlN rootsF lastB lastH clerkF queueFault chainF booksF namesN
set_option maxRecDepth 100000
set_option maxHeartbeats 4000000
theorem clerkcheck_ok (c : Clerk) (a : CLay) (hw : c.wf) {F : Hp} (ha : c.at F a) : Plain Tryz.prog F 23 [c.v a] (i64 (clerkF c)) := by
  have hhl := hw.hlen
  refine plain_vc (N := 50) (rv := [.tmp 2]) tbok mixed Tryz.func23 rfl rfl rfl rfl rfl ?_
  (refine run ?_; repeat intro b)
  refine s_plain _ rfl rfl rfl bd72 rfl (queuecheck_ok c.queue hw.queue ha.w) ?_
  (refine run ?_; repeat intro b)
  refine s_if (decide (queueFault c.queue ≠ 0)) ?_ (fun h0 => ?_) (fun h0 => ?_)
  · refine congrArg (fun b => some (EV.v (.bool b))) ?_
    rw [Bool.eq_iff_iff]; simp
  · have e : clerkF c = queueFault c.queue := by unfold clerkF; rw [if_pos (of_decide_eq_true h0)]
    rw [e]
    (refine run ?_; repeat intro b)
    rfl
  have h0 : queueFault c.queue = 0 := by have := of_decide_eq_false h0; omega
  (refine run ?_; repeat intro b)
  refine s_plain _ rfl rfl rfl bd56 rfl (span_ok c.batch 30 F) ?_
  (refine run ?_; repeat intro b)
  refine s_gplain _ rfl rfl rfl rfl bd56 rfl rfl (fun _ => span_ok c.every 1000 F) ?_
  (refine run ?_; repeat intro b)
  refine s_if (spanB c) ?_ (fun h1 => ?_) (fun h1 => ?_)
  · refine congrArg (fun b => some (EV.v (.bool b))) ?_
    rw [bpick_or, bpick_or, bpick_or, ← spanB_eq]
  · have e : clerkF c = 4 := by unfold clerkF; rw [if_neg (by rw [h0]; decide), if_pos h1]
    rw [e]
    (refine run ?_; repeat intro b)
    rfl
  (refine run ?_; repeat intro b)
  refine s_plain _ rfl rfl rfl bd73 rfl (chaincheck_ok c.heads (by omega) hw.heads ha.h) ?_
  (refine run ?_; repeat intro b)
  refine s_if (decide ((chainF c.heads).1 ≠ 0)) ?_ (fun h2 => ?_) (fun h2 => ?_)
  · refine congrArg (fun b => some (EV.v (.bool b))) ?_
    rw [Bool.eq_iff_iff]; simp
  · have e : clerkF c = (chainF c.heads).1 := by unfold clerkF; rw [if_neg (by rw [h0]; decide), h1, if_neg (by decide), if_pos (of_decide_eq_true h2)]
    rw [e]
    (refine run ?_; repeat intro b)
    rfl
  have h2 : (chainF c.heads).1 = 0 := by have := of_decide_eq_false h2; omega
  (refine run ?_; repeat intro b)
  refine s_plain _ rfl rfl rfl bd74 rfl (books_ok c a hw (chain_pos h2) ha) ?_
  (refine run ?_; repeat intro b)
  refine s_if (decide (booksF c ≠ 0)) ?_ (fun h3 => ?_) (fun h3 => ?_)
  · refine congrArg (fun b => some (EV.v (.bool b))) ?_
    rw [Bool.eq_iff_iff]; simp
  · have e : clerkF c = booksF c := by unfold clerkF; rw [if_neg (by rw [h0]; decide), h1, if_neg (by decide), if_neg (by rw [h2]; decide), if_pos (of_decide_eq_true h3)]
    rw [e]
    (refine run ?_; repeat intro b)
    rfl
  have h3 : booksF c = 0 := by have := of_decide_eq_false h3; omega
  obtain ⟨hS, hb0⟩ := pre_small h0 h2 h3
  rw [clerkF_names h0 h1 h2 h3]
  (refine run ?_; repeat intro b)
  refine s_plain _ rfl rfl rfl bd61 rfl (names_at c a [] hw hS hb0 (by decide) (fun s hs => by cases hs) ha (frow_nil _ _)) ?_
  (refine run ?_; repeat intro b)
  refine s_if (decide (24 < namesN c [])) ?_ (fun h4 => ?_) (fun h4 => ?_)
  · refine congrArg (fun b => some (EV.v (.bool b))) ?_
    rw [decide_eq_decide]; omega
  · rw [if_pos (of_decide_eq_true h4)]
    (refine run ?_; repeat intro b)
    rfl
  · rw [if_neg (of_decide_eq_false h4)]
    (refine run ?_; repeat intro b)
    rfl
end Go.Proofs.YthkkgphjjmhglaaGreatDoor
