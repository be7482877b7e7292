/-
The law TreeRoots: the walk.
-/
import Derived.Test.YtbhlpnbidmnbkaaDoorTreeRoots
namespace Go.Proofs.YtbhlpnbidmnbkaaDoor
set_option linter.unusedVariables false
set_option linter.unusedSimpArgs false
open Go.TR
open Go.Op (bytesLess)
/-- Are all entries of one path? -/
def oneN (l : List Entry) (n : List UInt8) : Bool := l.all fun x => decide (pathN x.name = pathN n)
theorem path_le {a b : List UInt8} (h : ahead a b = true) : bytesLess (pathN a) (pathN b) = true ∨ pathN a = pathN b := by
  unfold ahead at h
  rw [Bool.or_eq_true, Bool.and_eq_true, decide_eq_true_eq] at h
  rcases h with h | h
  · exact .inl h
  · exact .inr h.1
theorem leafE_one {l : List Entry} (h : bookFault l = 0) : leafE l = if oneN l (headE l) = true then 0 else 3 := by
  unfold leafE
  rw [if_neg (by rw [h]; decide)]
  have hp := (bookG_rise (bookFault_zero h).2.2).2
  cases l with
  | nil => rfl
  | cons a t =>
    have e1 : headE (a :: t) = a.name := rfl
    rcases List.eq_nil_or_concat t with rfl | ⟨i, z, rfl⟩
    · have e2 : lastN [a] = a.name := rfl
      rw [e1, e2, if_neg (by simp), if_pos (by simp [oneN])]
    · rw [List.concat_eq_append] at *
      have e2 : lastN (a :: (i ++ [z])) = z.name := by
        unfold lastN
        have : (a :: (i ++ [z])).length - 1 = i.length + 1 := by simp
        rw [this, List.getD_cons_succ]
        simp [List.getD]
      rw [e1, e2]
      rw [List.pairwise_cons, List.pairwise_append] at hp
      obtain ⟨h1, _, _, h2⟩ := hp
      by_cases he : pathN a.name = pathN z.name
      · rw [if_neg (fun hh => hh.2 he), if_pos]
        unfold oneN
        rw [List.all_eq_true]
        intro x hx
        rw [decide_eq_true_eq]
        rcases List.mem_cons.1 hx with rfl | hx
        · rfl
        · rcases List.mem_append.1 hx with hx2 | hx2
          · rcases path_le (h1 x hx) with h3 | h3
            · rcases path_le (h2 x hx2 z (List.mem_singleton.2 rfl)) with h4 | h4
              · rw [← he] at h4
                rw [bl_asym _ _ h3] at h4
                cases h4
              · rw [h4, he]
            · exact h3.symm
          · rw [List.mem_singleton.1 hx2, he]
      · rw [if_pos ⟨by simp, he⟩, if_neg]
        intro ho
        unfold oneN at ho
        rw [List.all_eq_true] at ho
        have := ho z (by simp)
        rw [decide_eq_true_eq] at this
        exact he this.symm
theorem leafO_one {l : List Entry} (h : bookFault l = 0) : leafO l = if oneN l (headE l) = true then leafN l else [] := by
  unfold leafO
  rw [leafE_one h]
  cases oneN l (headE l) <;> rfl
theorem oneN_nil (n : List UInt8) : oneN [] n = true := rfl
theorem ehd0 (x : Entry) : x.row[0]? = some (S x.name) := rfl
theorem oneN_take {l : List Entry} {n : List UInt8} {k : Nat} (h : k < l.length) : oneN (l.take (k + 1)) n = (oneN (l.take k) n && decide (pathN l[k].name = pathN n)) := by
  unfold oneN
  rw [List.take_succ_eq_append_getElem h, List.all_append]
  simp
attribute [local irreducible] vc vcOps seqK blockK loopK retK retG retI loopV Plain CallOK CallIn bodied VS vcAny dropG backK brK loopPK IntKind.wrap
attribute [local irreducible] goodPre bookFault lvlN noneM leafN leafE leafO atE atO pathN oneN
set_option maxRecDepth 100000
set_option maxHeartbeats 4000000
theorem tree_roots (l : List Entry) (s : List UInt8) {p : Option Addr} {c : Nat} {F : Hp} (hl32 : l.length * 32 ≤ 140737488355328) (hc : l.length ≤ c) (hw : ∀ x ∈ l, x.wf) (hf : Frow F p (l.flatMap Entry.row)) (hs : s.length ≤ 4611686018427387904) :
    Plain Tryd.prog F 3 [.slice p l.length c, S s] (.bool true) := by
  have hl : l.length ≤ 4611686018427387904 := by omega
  refine plain_vc (N := 130) (rv := [.tmp 4]) tbok mixed Tryd.func3 rfl rfl rfl rfl rfl ?_
  (refine run ?_; repeat intro b)
  refine s_plain _ rfl rfl rfl bd6 rfl (treeleaf_ok l hl hw hf) ?_
  (refine run ?_; repeat intro b)
  refine s_plain _ rfl rfl rfl bd7 rfl (treeAt_ok l s hl hw hs hf) ?_
  (refine run ?_; repeat intro b)
  refine s_plain _ rfl rfl rfl bd8 rfl (treeroot_ok l hl hw hf) ?_
  (refine run ?_; repeat intro b)
  refine s_plain _ rfl rfl rfl bd9 rfl (bookfault_ok l hl hw hf) ?_
  rcases bookFault_cases l with h0 | h0 | h0
  · obtain ⟨h24, hgood, _⟩ := bookFault_zero h0
    have hE := leafE_one h0
    have hO := leafO_one h0
    obtain ⟨r1, r2⟩ := at_good h0 goodPre_nil
    rw [h0, r1, r2]
    (refine run ?_; repeat intro b)
    refine s_loopP (fun k : Nat => k ≤ l.length) (fun k => ⟨[(0, .v (.slice p l.length c)), (1, .v (S s)), (5, .v (S (leafO l))), (6, .v (i64 (leafE l))), (7, .v (mu (atO l s))), (8, .v (i64 (atE l s))), (9, .v (mu (lvlN l []))), (10, .v (i64 0)), (12, .v (.bool (oneN (l.take k) (headE l)))), (60, .v (.slice p l.length c)), (61, .v (i64 (l.length : Nat))), (62, .v (i64 (k : Nat)))], F, [], 0⟩) (fun k => l.length - k) 0 (Nat.zero_le _) (VS.keepN [0, 1, 5, 6, 7, 8, 9, 10, 12, 60, 61, 62] rfl (by rw [List.take_zero, oneN_nil]; rfl)) ?_
    intro k hk
    by_cases hlt : k < l.length
    · obtain ⟨o1, o2⟩ := frow_agg entry_row (by decide) hf k hlt
      have hst := oneN_take (n := headE l) hlt
      have hwx := hw l[k] (List.getElem_mem hlt)
      have h00 : 0 < l.length := by omega
      have hwh0 := (hw l[0] (List.getElem_mem h00)).1
      have ehd : headE l = l[0].name := by unfold headE; simp [List.getD, h00]
      have og : Pcell F (padd (padd p (0 * 2)) 0) = some (S (headE l)) := by
        obtain ⟨_, o3⟩ := frow_agg entry_row (by decide) hf 0 h00
        have := o3 0 (by decide)
        rw [ehd0] at this
        rw [ehd]
        exact this
      rw [← ehd] at hwh0
      have o0 := (frow_agg entry_row (by decide) hf 0 h00).1
      generalize l[k] = x at o2 hst hwx
      (refine run ?_; repeat intro b)
      refine s_if true (by rw [← decide_eq_true (p := ((k : Nat) : Int) < ((l.length : Nat) : Int)) (by omega)]; rfl) (fun _ => ?_) (fun h => by cases h)
      (refine run ?_; repeat intro b)
      refine s_pureO rfl rfl rfl ⟨by omega, by omega, frow_some hf (j := k * 2) (by rw [flat_len entry_row]; omega)⟩ ?_
      refine s_loadA x.row rfl rfl rfl rfl rfl (by rw [Int.toNat_natCast]; exact o1) (by rw [Int.toNat_natCast]; exact o2) ?_
      (refine run ?_; repeat intro b)
      refine s_regiond (by kernel_rfl) ?_
      cases ho : oneN (l.take k) (headE l) with
      | false =>
        rw [ho, Bool.false_and] at hst
        (refine run ?_; repeat intro b)
        rw [wrap_succ (by omega)]
        exact s_loopPc (k + 1) [0] [0, 1, 5, 6, 7, 8, 9, 10, 12, 60, 61, 62] hlt (by omega) rfl (by rw [hst]; rfl) rfl rfl trivial rfl
      | true =>
        rw [ho, Bool.true_and] at hst
        (refine run ?_; repeat intro b)
        refine s_plain _ rfl rfl rfl bd10 rfl (refpath_ok x.name hwx.1 F) ?_
        (refine run ?_; repeat intro b)
        refine s_pureO rfl rfl rfl ⟨by omega, by omega, frow_some hf (j := 0) (by rw [flat_len entry_row]; omega)⟩ ?_
        (refine run ?_; repeat intro b)
        refine s_pureO rfl rfl rfl o0 ?_
        (refine run ?_; repeat intro b)
        refine s_load (S (headE l)) rfl rfl rfl rfl og ?_
        (refine run ?_; repeat intro b)
        refine s_plain _ rfl rfl rfl bd10 rfl (refpath_ok (headE l) hwh0 F) ?_
        (refine run ?_; repeat intro b)
        rw [wrap_succ (by omega)]
        exact s_loopPc (k + 1) [0] [0, 1, 5, 6, 7, 8, 9, 10, 12, 60, 61, 62] hlt (by omega) rfl (by rw [hst]; rfl) rfl rfl trivial rfl
    · have hge : k = l.length := by omega
      subst hge
      rw [List.take_length]
      (refine run ?_; repeat intro b)
      refine s_if false (by rw [← decide_eq_false (p := ((l.length : Nat) : Int) < ((l.length : Nat) : Int)) (by omega)]; rfl) (fun h => by cases h) (fun _ => ?_)
      rw [hE, hO]
      clear hE hO
      have hpm := fun s => prefixmark_ok l s h24 hw (c := c) hf
      cases ho : oneN l (headE l) with
      | true =>
        rw [if_pos rfl, if_pos rfl]
        (refine run ?_; repeat intro b)
        refine s_plain _ rfl rfl rfl bd11 rfl (leafsaid_ok l h24 hw hf) ?_
        (refine run ?_; repeat intro b)
        refine s_gplain _ rfl rfl rfl rfl bd12 rfl rfl (fun _ => hpm []) ?_
        (refine run ?_; repeat intro b)
        refine s_if false ?_ (fun h => by cases h) (fun _ => ?_)
        · refine congrArg (fun b => some (EV.v (.bool b))) ?_
          simp [bpick_or, bpick_and]
        (refine run ?_; repeat intro b)
        refine s_plain _ rfl rfl rfl bd13 rfl (goodprefix_ok s hs F) ?_
        cases hg : goodPre s with
        | false =>
          obtain ⟨e1, e2⟩ := at_form h0 hg
          rw [e1, e2]
          (refine run ?_; repeat intro b)
          rfl
        | true =>
          obtain ⟨e1, e2⟩ := at_good h0 hg
          rw [e1, e2]
          (refine run ?_; repeat intro b)
          refine s_plain _ rfl rfl rfl bd12 rfl (hpm s) ?_
          (refine run ?_; repeat intro b)
          simp only [tupV, bpick_and]
          simp
      | false =>
        rw [if_neg Bool.false_ne_true, if_neg Bool.false_ne_true]
        (refine run ?_; repeat intro b)
        refine s_plain _ rfl rfl rfl bd12 rfl (hpm []) ?_
        (refine run ?_; repeat intro b)
        refine s_if false ?_ (fun h => by cases h) (fun _ => ?_)
        · refine congrArg (fun b => some (EV.v (.bool b))) ?_
          simp [bpick_or, bpick_and]
        (refine run ?_; repeat intro b)
        refine s_plain _ rfl rfl rfl bd13 rfl (goodprefix_ok s hs F) ?_
        cases hg : goodPre s with
        | false =>
          obtain ⟨e1, e2⟩ := at_form h0 hg
          rw [e1, e2]
          (refine run ?_; repeat intro b)
          rfl
        | true =>
          obtain ⟨e1, e2⟩ := at_good h0 hg
          rw [e1, e2]
          (refine run ?_; repeat intro b)
          refine s_plain _ rfl rfl rfl bd12 rfl (hpm s) ?_
          (refine run ?_; repeat intro b)
          simp only [tupV, bpick_and]
          simp
  · have e1 : leafE l = 2 := by unfold leafE; rw [if_pos (by rw [h0]; decide), h0]
    have e2 : leafO l = [] := by unfold leafO; rw [e1]; rfl
    have e3 := fun s => atE_fault s (l := l) (by rw [h0]; decide)
    have e4 := fun s => at_bad (e3 s) (by rw [h0]; decide)
    rw [e1, e2, e3, e4, e3, e4, h0]
    (refine run ?_; repeat intro b)
    rfl
  · have e1 : leafE l = 3 := by unfold leafE; rw [if_pos (by rw [h0]; decide), h0]
    have e2 : leafO l = [] := by unfold leafO; rw [e1]; rfl
    have e3 := fun s => atE_fault s (l := l) (by rw [h0]; decide)
    have e4 := fun s => at_bad (e3 s) (by rw [h0]; decide)
    rw [e1, e2, e3, e4, e3, e4, h0]
    (refine run ?_; repeat intro b)
    rfl
end Go.Proofs.YtbhlpnbidmnbkaaDoor
