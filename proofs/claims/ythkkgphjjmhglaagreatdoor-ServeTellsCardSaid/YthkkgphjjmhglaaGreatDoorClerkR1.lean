/-
The reference's NamesOf, Closed: the walks.
-/
import Derived.Test.YthkkgphjjmhglaaGreatDoorSetClerk1
import Derived.Test.YthkkgphjjmhglaaGreatDoorOrd
import Derived.Test.YthkkgphjjmhglaaGreatDoorSetProofTell
namespace Go.Proofs.YthkkgphjjmhglaaGreatDoor
set_option linter.unusedVariables false
set_option linter.unusedSimpArgs false
open Go.TR
def moreL (s : List UInt8) : List (List UInt8) := if s = [] then [] else [s]
theorem anames_snoc {l : List Ask} {k : Nat} (h : k < l.length) (A : List (List UInt8)) : ((A ++ (l.take (k + 1)).map Ask.name).map S).map EV.v = ((A ++ (l.take k).map Ask.name).map S).map EV.v ++ [EV.v (S l[k].name)] := by
  rw [List.take_succ_eq_append_getElem h]
  simp only [List.map_append, List.map_cons, List.map_nil, List.append_assoc]
theorem snoc_S (L : List (List UInt8)) (s : List UInt8) : (L.map S).map EV.v ++ [EV.v (S s)] = ((L ++ [s]).map S).map EV.v := by simp
attribute [local irreducible] vc vcOps seqK blockK loopK retK retG retI loopV Plain CallOK CallIn bodied VS vcAny dropG backK brK loopPK IntKind.wrap
attribute [local irreducible] bookFault lvlN rootsF lastB lastH ordN
set_option maxRecDepth 100000
set_option maxHeartbeats 4000000
theorem namesof_ok (c : Clerk) (a : CLay) (more : List UInt8) (hw : c.wf) (h0 : 0 < c.books.length) (hlen : (namesL c (moreL more)).length ≤ 1000000) (hm : more.length ≤ 4611686018427387904) {F : Hp} (ha : c.at F a) :
    Plain Tryz.prog F 52 [c.v a, S more] (i64 ((namesN c (moreL more) : Nat) : Int)) := by
  obtain ⟨bs, hb, hfb, hbs⟩ := ha.b
  have hbl := bks_len hb
  obtain ⟨⟨ps, ls, cs⟩, k1, k2, k3⟩ := bk_get hb (k := c.books.length - 1) (by omega)
  have kc := bk_cell hfb k1
  have hat := (hbs _ k3).2
  have hwl : ∀ x ∈ lastB c, x.wf := (hw.books _ (lastB_mem h0)).2
  have hll := (hw.books _ (lastB_mem h0)).1
  rw [← lastB_get h0] at k2
  have hnames : namesL c (moreL more) = (lastB c).map Entry.name ++ c.queue.wait.map Ask.name ++ moreL more := rfl
  have hbig : ∀ s ∈ namesL c (moreL more), s.length ≤ 4611686018427387904 := fun s hs => by
    rw [hnames] at hs
    rcases List.mem_append.1 hs with hs | hs
    · rcases List.mem_append.1 hs with hs | hs
      · obtain ⟨x, hx, rfl⟩ := List.mem_map.1 hs
        exact (hwl x hx).1
      · obtain ⟨x, hx, rfl⟩ := List.mem_map.1 hs
        exact (hw.queue.wait x hx).name
    · unfold moreL at hs
      split at hs
      · cases hs
      · rw [List.mem_singleton.1 hs]; exact hm
  have hN : (lastB c).length + c.queue.wait.length + (moreL more).length ≤ 1000000 := by
    have := hlen
    rw [hnames] at this
    simp only [List.length_append, List.length_map] at this
    omega
  have hfw := ha.w
  have hbn := hw.blen
  simp only at k2 hat
  unfold namesN
  rw [hnames] at hbig ⊢
  clear hlen hnames
  subst k2
  generalize lastB c = ls at *
  have ew : IntKind.i64.wrap (((c.books.length : Nat) : Int) - 1) = ((c.books.length - 1 : Nat) : Int) := by rw [wrap_i64 (by omega) (by omega)]; omega
  refine plain_vc (N := 52) (rv := [.tmp 4]) tbok mixed Tryz.func52 rfl rfl rfl rfl rfl ?_
  (refine run ?_; repeat intro b)
  rw [ew]
  refine s_pureO rfl rfl rfl ⟨by omega, by omega, frow_some hfb (j := c.books.length - 1) (by rw [List.length_map, hbl]; omega)⟩ ?_
  refine s_load (Bk.v (ps, ls, cs)) rfl rfl rfl rfl (by rw [Int.toNat_natCast, Nat.mul_one]; exact kc) ?_
  (refine run ?_; repeat intro b)
  revert b; intro bC
  refine s_loopP (fun q : Nat × Option Nat × Nat => q.1 ≤ ls.length ∧ (q.2.1 = none → q.1 = 0 ∧ q.2.2 = 0) ∧ q.1 ≤ q.2.2)
    (fun q => ⟨[(5, .row 1 0 q.1 q.2.2), (1, .v (S more)), (2, .loc 0 0), (17, .v (.slice ps ls.length cs)), (18, .v (i64 (ls.length : Nat))), (19, .v (i64 (q.1 : Nat)))], F, [(1, ⟨q.2.1, (((ls.take q.1).map Entry.name).map S).map EV.v, 9, q.2.2 * 1⟩), (0, ⟨some bC, [.v (i64 c.queue.most), .v (.slice a.w c.queue.wait.length a.cw), .v (i64 c.batch), .v (i64 c.every), .v (i64 c.now), .v (.slice a.h c.heads.length a.ch), .v (.slice a.b c.books.length a.cb)], 28, 7⟩)], 2⟩) (fun q => ls.length - q.1) (0, none, 0) ⟨Nat.zero_le _, fun _ => ⟨rfl, rfl⟩, Nat.le_refl _⟩ (VS.nilrow 5 9 [1, 2, 17, 18, 19] rfl rfl (VS.id rfl)) ?_
  rintro ⟨k, blk, cap⟩ ⟨hk, h3, h4⟩
  dsimp only at hk h3 h4 ⊢
  have hlk : ((((ls.take k).map Entry.name).map S).map EV.v).length = k := by rw [List.length_map, List.length_map, List.length_map, List.length_take]; omega
  by_cases hlt : k < ls.length
  · obtain ⟨o1, o2⟩ := frow_agg entry_row (by decide) hat k hlt
    have hsn := names_snoc hlt
    generalize ls[k] = x at o2 hsn
    (refine run ?_; repeat intro b)
    refine s_if true (by rw [← decide_eq_true (p := ((k : Nat) : Int) < ((ls.length : Nat) : Int)) (by omega)]; rfl) (fun _ => ?_) (fun h => by cases h)
    (refine run ?_; repeat intro b)
    refine s_pureO rfl rfl rfl ⟨by omega, by omega, frow_some hat (j := k * 2) (by rw [flat_len entry_row]; omega)⟩ ?_
    refine s_loadA x.row rfl rfl rfl rfl rfl (by rw [Int.toNat_natCast]; exact o1) (by rw [Int.toNat_natCast]; exact o2) ?_
    (refine run ?_; repeat intro b)
    refine s_appR rfl rfl rfl rfl rfl rfl rfl rfl (src_row rfl rfl) one1 h3 h4 rfl (by rw [hlk, Nat.mul_one]; exact Nat.le_refl _) (by show _ * 16 ≤ _; omega) (fun h => by cases h) (fun _ b2 c2 hc2 => ?_)
    (refine run ?_; repeat intro b)
    have hcells : ((((ls.take k).map Entry.name).map S).map EV.v).take (k * 1) ++ [EV.v (S x.name)] = (((ls.take (k + 1)).map Entry.name).map S).map EV.v := by
      rw [hsn, List.take_of_length_le (by rw [hlk, Nat.mul_one]; exact Nat.le_refl _)]
    rw [wrap_succ (by omega)]
    exact s_loopPq (k + 1, some b2, c2) 1 [(4, 1), (0, 0)] [5, 1, 2, 17, 18, 19] [(1, ⟨some b2, (((ls.take (k + 1)).map Entry.name).map S).map EV.v, 9, c2 * 1⟩), (0, ⟨some bC, [.v (i64 c.queue.most), .v (.slice a.w c.queue.wait.length a.cw), .v (i64 c.batch), .v (i64 c.every), .v (i64 c.now), .v (.slice a.h c.heads.length a.ch), .v (.slice a.b c.books.length a.cb)], 28, 7⟩)] ⟨hlt, (fun h => by cases h), hc2⟩ (by simp only; omega) (Nat.min_le_left _ _)
      ⟨rfl, ⟨_, rfl, rfl, rfl, rfl, .inl ⟨hcells.symm, fun e he => all_v _ e (hcells ▸ he)⟩⟩, rfl, ⟨_, rfl, rfl, rfl, rfl, .inr rfl⟩, trivial⟩ rfl rfl rfl rfl rfl rfl rfl
  have hge : k = ls.length := by omega
  subst hge
  rw [List.take_length] at hlk ⊢
  (refine run ?_; repeat intro b)
  refine s_if false (by rw [← decide_eq_false (p := ((ls.length : Nat) : Int) < ((ls.length : Nat) : Int)) (by omega)]; rfl) (fun h => by cases h) (fun _ => ?_)
  (refine run ?_; repeat intro b)
  have hA : (ls.map Entry.name).length = ls.length := List.length_map ..
  have h3' : blk = none → (ls.map Entry.name).length + 0 = 0 ∧ cap = 0 := fun h => by have := h3 h; omega
  have h4' : (ls.map Entry.name).length + 0 ≤ cap := by omega
  rw [← hA]
  generalize ls.map Entry.name = A at *
  refine s_loopP (fun q : Nat × Option Nat × Nat => q.1 ≤ c.queue.wait.length ∧ (q.2.1 = none → A.length + q.1 = 0 ∧ q.2.2 = 0) ∧ A.length + q.1 ≤ q.2.2)
    (fun q => ⟨[(5, .row 2 0 (A.length + q.1) q.2.2), (1, .v (S more)), (2, .loc 0 0), (31, .v (.slice a.w c.queue.wait.length a.cw)), (32, .v (i64 (c.queue.wait.length : Nat))), (33, .v (i64 (q.1 : Nat)))], F, [(2, ⟨q.2.1, ((A ++ (c.queue.wait.take q.1).map Ask.name).map S).map EV.v, 9, q.2.2 * 1⟩), (0, ⟨some bC, [.v (i64 c.queue.most), .v (.slice a.w c.queue.wait.length a.cw), .v (i64 c.batch), .v (i64 c.every), .v (i64 c.now), .v (.slice a.h c.heads.length a.ch), .v (.slice a.b c.books.length a.cb)], 28, 7⟩)], 3⟩) (fun q => c.queue.wait.length - q.1) (0, blk, cap) ⟨Nat.zero_le _, h3', h4'⟩ (VS.ren (nx' := 3) [(1, 2), (0, 0)] [5, 1, 2, 31, 32, 33] [(2, ⟨blk, ((A ++ (c.queue.wait.take 0).map Ask.name).map S).map EV.v, 9, cap * 1⟩), (0, ⟨some bC, [.v (i64 c.queue.most), .v (.slice a.w c.queue.wait.length a.cw), .v (i64 c.batch), .v (i64 c.every), .v (i64 c.now), .v (.slice a.h c.heads.length a.ch), .v (.slice a.b c.books.length a.cb)], 28, 7⟩)] ⟨rfl, ⟨_, rfl, rfl, rfl, rfl, .inl ⟨(by rw [List.take_zero, List.map_nil, List.append_nil]), fun e he => all_v _ e he⟩⟩, rfl, ⟨_, rfl, rfl, rfl, rfl, .inr rfl⟩, trivial⟩ rfl rfl rfl rfl rfl rfl rfl) ?_
  clear h3' h4'
  clear h3 h4 hlt
  rintro ⟨k, blk, cap⟩ ⟨hk, h3, h4⟩
  dsimp only at hk h3 h4 ⊢
  have hlk : (((A ++ (c.queue.wait.take k).map Ask.name).map S).map EV.v).length = A.length + k := by rw [List.length_map, List.length_map, List.length_append, List.length_map, List.length_take]; omega
  by_cases hlt : k < c.queue.wait.length
  · obtain ⟨o1, o2⟩ := frow_agg ask_cells (by decide) hfw k hlt
    have hsn := anames_snoc hlt A
    generalize c.queue.wait[k] = x at o2 hsn
    (refine run ?_; repeat intro b)
    refine s_if true (by rw [← decide_eq_true (p := ((k : Nat) : Int) < ((c.queue.wait.length : Nat) : Int)) (by omega)]; rfl) (fun _ => ?_) (fun h => by cases h)
    (refine run ?_; repeat intro b)
    refine s_pureO rfl rfl rfl ⟨by omega, by omega, frow_some hfw (j := k * 4) (by rw [flat_len ask_cells]; omega)⟩ ?_
    refine s_loadA x.cells rfl rfl rfl rfl rfl (by rw [Int.toNat_natCast]; exact o1) (by rw [Int.toNat_natCast]; exact o2) ?_
    (refine run ?_; repeat intro b)
    refine s_appR rfl rfl rfl rfl rfl rfl rfl rfl (src_row rfl rfl) one1 h3 h4 rfl (by rw [hlk, Nat.mul_one]; exact Nat.le_refl _) (by show _ * 16 ≤ _; omega) (fun h => by cases h) (fun _ b2 c2 hc2 => ?_)
    (refine run ?_; repeat intro b)
    have hcells : (((A ++ (c.queue.wait.take k).map Ask.name).map S).map EV.v).take ((A.length + k) * 1) ++ [EV.v (S x.name)] = ((A ++ (c.queue.wait.take (k + 1)).map Ask.name).map S).map EV.v := by
      rw [hsn, List.take_of_length_le (by rw [hlk, Nat.mul_one]; exact Nat.le_refl _)]
    rw [wrap_succ (by omega)]
    exact s_loopPq (k + 1, some b2, c2) 2 [(5, 2), (0, 0)] [5, 1, 2, 31, 32, 33] [(2, ⟨some b2, ((A ++ (c.queue.wait.take (k + 1)).map Ask.name).map S).map EV.v, 9, c2 * 1⟩), (0, ⟨some bC, [.v (i64 c.queue.most), .v (.slice a.w c.queue.wait.length a.cw), .v (i64 c.batch), .v (i64 c.every), .v (i64 c.now), .v (.slice a.h c.heads.length a.ch), .v (.slice a.b c.books.length a.cb)], 28, 7⟩)] ⟨hlt, (fun h => by cases h), hc2⟩ (by simp only; omega) (Nat.min_le_left _ _)
      ⟨rfl, ⟨_, rfl, rfl, rfl, rfl, .inl ⟨hcells.symm, fun e he => all_v _ e (hcells ▸ he)⟩⟩, rfl, ⟨_, rfl, rfl, rfl, rfl, .inr rfl⟩, trivial⟩ rfl rfl rfl rfl rfl rfl rfl
  have hge : k = c.queue.wait.length := by omega
  subst hge
  rw [List.take_length] at hlk ⊢
  have hB : (A ++ c.queue.wait.map Ask.name).length = A.length + c.queue.wait.length := by rw [List.length_append, List.length_map]
  (refine run ?_; repeat intro b)
  refine s_if false (by rw [← decide_eq_false (p := ((c.queue.wait.length : Nat) : Int) < ((c.queue.wait.length : Nat) : Int)) (by omega)]; rfl) (fun h => by cases h) (fun _ => ?_)
  (refine run ?_; repeat intro b)
  generalize hBe : A ++ c.queue.wait.map Ask.name = B at *
  rw [← hB]
  have hbn2 : B.length ≤ 1000000 := by omega
  have h3' : blk = none → B.length = 0 ∧ cap = 0 := fun h => by have := h3 h; omega
  refine s_if (decide (more ≠ [])) ?_ (fun h => ?_) (fun h => ?_)
  · refine congrArg (fun b => some (EV.v (.bool b))) ?_
    show (!decide (bl (mkB more) = bl (mkB []))) = _
    rw [bl_mk, bl_mk, Bool.eq_iff_iff]
    simp
  · have hmo : moreL more = [more] := by unfold moreL; rw [if_neg (of_decide_eq_true h)]
    rw [hmo] at hbig hN ⊢
    have hx : (B ++ [more]).length = B.length + 1 := by simp
    (refine run ?_; repeat intro b)
    refine s_appR rfl rfl rfl rfl rfl rfl rfl rfl (src_row rfl rfl) one1 h3' (by omega) rfl (by rw [hlk, Nat.mul_one, hB]; exact Nat.le_refl _) (by show _ * 16 ≤ _; omega) (fun h => by cases h) (fun _ b2 c2 hc2 => ?_)
    have hcells : ((B.map S).map EV.v).take (B.length * 1) ++ [EV.v (S more)] = ((B ++ [more]).map S).map EV.v := by
      rw [← snoc_S, List.take_of_length_le (by rw [hlk, Nat.mul_one, hB]; exact Nat.le_refl _)]
    rw [hcells]
    refine s_shift (VS.freeze 4 [2, 48] rfl (allV_map_v _) rfl rfl fun F1 hs1 hf1 => VS.id ?_)
    (refine run ?_; repeat intro b)
    have hord := ordered_ok (B ++ [more]) (c := c2) (by rw [hx]; omega) hbig hf1
    rw [hx] at hord
    refine s_callF rfl rfl rfl bd84 rfl hord ?_
    rintro _ F2 hF2 ⟨p3, c3, rfl, hf3⟩
    (refine run ?_; repeat intro b)
    rfl
  · have hmo : moreL more = [] := by unfold moreL; rw [if_pos (by simpa using h)]
    rw [hmo, List.append_nil] at hbig ⊢
    (refine runR ?_; repeat intro b)
    refine s_vs (VS.shut (fun pS => [(5, .v (.slice pS B.length cap))]) 2 [5] rfl (allV_map_v _) (fun _ => rfl) rfl (fun _ => rfl) rfl fun F2 pS hF2 hgS => ?_)
    (refine run ?_; repeat intro b)
    have hord := ordered_ok B (c := cap) (by omega) hbig hgS
    refine s_callF rfl rfl rfl bd84 rfl hord ?_
    rintro _ F3 hF3 ⟨p3, c3, rfl, hf3⟩
    (refine run ?_; repeat intro b)
    rfl
end Go.Proofs.YthkkgphjjmhglaaGreatDoor
