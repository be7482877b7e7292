/-
Package chain: Clash: the walk.
-/
import Derived.Test.YthkmfihbpbehfaaFwR
import Derived.Test.YthkmfihbpbehfaaFork
import Derived.Test.YthkmfihbpbehfaaBack
import Derived.Test.YthkmfihbpbehfaaClashLoop
namespace Go.Proofs.Ythkmfihbpbehfaa
set_option linter.unusedVariables false
set_option linter.unusedSimpArgs false
open Go.TR
def clashL (L : List HP) : List UInt8 × List UInt8 × Int := match L.getLast? with
  | none => ([], [], 5)
  | some q => if q.1.markO ≠ q.2.markO then ([], [], 8) else clashO L
def clashT (la lb : List Head) : List UInt8 × List UInt8 × Int :=
  if (chainF la).1 ≠ 0 then ([], [], (chainF la).1) else if (chainF lb).1 ≠ 0 then ([], [], (chainF lb).1) else clashL (bothP la lb)
attribute [local irreducible] vc vcOps seqK blockK loopK retK retG retI loopV Plain CallOK CallIn bodied VS vcAny dropG backK brK loopPK IntKind.wrap
attribute [local irreducible] Goes goesK
set_option maxHeartbeats 4000000 in
theorem chainclash_ok (la lb : List Head) (ha : la.length ≤ 4611686018427387904) (hb : lb.length ≤ 4611686018427387904) (wa : ∀ x ∈ la, x.wf) (wb : ∀ x ∈ lb, x.wf) {pa pb : Option Addr} {ca cb : Nat} {F : Hp} (hfa : Frow F pa (la.flatMap Head.row)) (hfb : Frow F pb (lb.flatMap Head.row)) : Plain Try.prog F 23 [.slice pa la.length ca, .slice pb lb.length cb] (triple (S (clashT la lb).1) (S (clashT la lb).2.1) (i64 (clashT la lb).2.2)) := by
  refine plain_goes (N := 77) 5 Try.func23 rfl rfl rfl rfl fun w0 hw0 => ?_
  refine goes_seq tbok mixed ?_
  (refine run ?_; repeat intro b)
  refine goes_seqn tbok mixed ?_
  (refine run ?_; repeat intro b)
  refine s_shift (VS.freeze 3 [0, 1, 4, 5, 6, 22] rfl rfl rfl rfl fun F1 hs1 hf1 => VS.id ?_)
  have hc := chains_ok [(pa, la, ca), (pb, lb, cb)] (by simp) (cc := 2) hf1 (fun s hs => by
    simp only [List.mem_cons, List.not_mem_nil, or_false] at hs
    rcases hs with rfl | rfl
    · exact ⟨ha, wa, frow_sub hs1 hfa⟩
    · exact ⟨hb, wb, frow_sub hs1 hfb⟩)
  rw [checkF_two] at hc
  refine s_plain _ rfl rfl rfl bd84 rfl hc ?_
  obtain ⟨e, he⟩ : ∃ e, e = if (chainF la).1 ≠ 0 then (chainF la).1 else (chainF lb).1 := ⟨_, rfl⟩
  rw [← he]
  (refine run ?_; repeat intro b)
  refine s_if (decide (e ≠ 0)) ?_ (fun h => ?_) (fun h => ?_)
  · refine congrArg (fun b => some (EV.v (.bool b))) ?_
    rw [Bool.eq_iff_iff]; simp
  · have h0 : e ≠ 0 := of_decide_eq_true h
    have e1 : clashT la lb = ([], [], e) := by
      unfold clashT
      rw [he] at h0 ⊢
      by_cases h1 : (chainF la).1 ≠ 0
      · rw [if_pos h1, if_pos h1]
      · rw [if_neg h1] at h0 ⊢
        rw [if_neg h1, if_pos h0]
    rw [e1]
    (refine run ?_; repeat intro b)
    exact ret_goes tbok rfl rfl
  · have h0 : e = 0 := by
      have := of_decide_eq_false h
      omega
    have za : (chainF la).1 = 0 := by
      by_cases z : (chainF la).1 = 0
      · exact z
      · rw [if_pos z] at he; omega
    have zb : (chainF lb).1 = 0 := by
      rw [if_neg (by simpa using za)] at he
      omega
    have e1 : clashT la lb = clashL (bothP la lb) := by unfold clashT; rw [if_neg (by simpa using za), if_neg (by simpa using zb)]
    rw [e1]
    obtain ⟨_, a40, _, _, _⟩ := chainF_zero za
    obtain ⟨_, b40, _, _, _⟩ := chainF_zero zb
    have hlen := bothP_len la lb
    have hmul : la.length * lb.length ≤ 40 * 40 := Nat.mul_le_mul a40 b40
    have hwf : ∀ q ∈ bothP la lb, q.1.wf ∧ q.2.wf := fun q hq => by
      unfold bothP bothX at hq
      obtain ⟨x, hx, hq⟩ := List.mem_flatMap.1 hq
      obtain ⟨y, hy, rfl⟩ := List.mem_map.1 hq
      exact ⟨wa x hx, wb y ((List.mem_filter.1 hy).1)⟩
    clear he hc e1
    (refine run ?_; repeat intro b)
    refine goes_seqn tbok mixed ?_
    (refine run ?_; repeat intro b)
    refine s_callF rfl rfl rfl bd85 rfl (both2_ok la lb a40 b40 (frow_sub hs1 hfa) (frow_sub hs1 hfb)) ?_
    rintro _ F2 hF2 ⟨pl, cl, rfl, hg⟩
    generalize bothP la lb = L at hlen hg hwf
    (refine run ?_; repeat intro b)
    refine goes_seqn tbok mixed ?_
    (refine run ?_; repeat intro b)
    refine s_if (decide (L.length = 0)) ?_ (fun h => ?_) (fun h => ?_)
    · refine congrArg (fun b => some (EV.v (.bool b))) ?_
      rw [Bool.eq_iff_iff]; simp
    · rw [List.eq_nil_of_length_eq_zero (of_decide_eq_true h)]
      (refine run ?_; repeat intro b)
      exact ret_goes tbok rfl rfl
    · have hn : L.length ≠ 0 := of_decide_eq_false h
      obtain ⟨o1, o2⟩ := frow_agg row2_len (by decide) hg (L.length - 1) (by omega)
      have hq := hwf L[L.length - 1] (List.getElem_mem _)
      have hl : clashL L = if L[L.length - 1].1.markO ≠ L[L.length - 1].2.markO then ([], [], 8) else clashO L := by
        unfold clashL
        rw [List.getLast?_eq_getElem?, List.getElem?_eq_getElem (by omega)]
      rw [hl]
      generalize L[L.length - 1] = q at o2 hq
      obtain ⟨x, y⟩ := q
      obtain ⟨wx, wy⟩ := hq
      dsimp only at wx wy ⊢
      have ew : IntKind.i64.wrap (((L.length : Nat) : Int) - 1) = ((L.length - 1 : Nat) : Int) := by rw [wrap_i64 (by omega) (by omega)]; omega
      (refine run ?_; repeat intro b)
      refine goes_seqn tbok mixed ?_
      (refine run ?_; repeat intro b)
      rw [ew]
      refine s_pureO rfl rfl rfl ⟨by omega, by omega, frow_some hg (j := (L.length - 1) * 8) (by rw [flat_len row2_len]; omega)⟩ ?_
      refine s_loadA (row2 (x, y)) rfl rfl rfl rfl rfl (by rw [Int.toNat_natCast]; exact o1) (by rw [Int.toNat_natCast]; exact o2) ?_
      (refine run ?_; repeat intro b)
      refine goes_seqn tbok mixed ?_
      (refine run ?_; repeat intro b)
      refine s_plain _ rfl rfl rfl bd86 rfl (headmark_ok x wx F2) ?_
      (refine run ?_; repeat intro b)
      refine goes_seqn tbok mixed ?_
      (refine run ?_; repeat intro b)
      refine s_plain _ rfl rfl rfl bd86 rfl (headmark_ok y wy F2) ?_
      (refine run ?_; repeat intro b)
      refine goes_seqn tbok mixed ?_
      (refine run ?_; repeat intro b)
      refine s_if (decide (x.markO ≠ y.markO)) ?_ (fun h => ?_) (fun h => ?_)
      · refine congrArg (fun b => some (EV.v (.bool b))) ?_
        rw [Bool.eq_iff_iff]; simp; omega
      · rw [if_pos (of_decide_eq_true h)]
        (refine run ?_; repeat intro b)
        exact ret_goes tbok rfl rfl
      · rw [if_neg (of_decide_eq_false h)]
        (refine run ?_; repeat intro b)
        refine goes_seq2 tbok mixed ?_
        (refine run ?_; repeat intro b)
        refine s_callF rfl rfl rfl bd87 rfl (back_in pl L.length cl F2) ?_
        rintro _ F3 hF3 ⟨b0, rfl, hb0⟩
        (refine run ?_; repeat intro b)
        refine goesK_n (goes_hole fun a w hs => ?_)
        have B4 := sat_boxed hs (id := 0) rfl
        have B5 := sat_boxed hs (id := 1) rfl
        have B6 := sat_boxed hs (id := 2) rfl
        exact clash_loop L hwf (by omega) hn (frow_sub hF3 hg) hb0 hs.wok.le (below_of_pres hs.wok.pres) B4 B5 B6 (hs.wok.new 0 _ _ rfl rfl) (hs.wok.new 1 _ _ rfl rfl) (hs.wok.new 2 _ _ rfl rfl)
          (sat_apart hs (i := 0) (j := 1) rfl rfl rfl rfl (by decide)) (sat_apart hs (i := 0) (j := 2) rfl rfl rfl rfl (by decide)) (sat_apart hs (i := 1) (j := 2) rfl rfl rfl rfl (by decide))
          a hs.size hs.defers (hs.env 4 (.loc 0 0) _ rfl rfl rfl) (hs.env 5 (.loc 1 0) _ rfl rfl rfl) (hs.env 6 (.loc 2 0) _ rfl rfl rfl) (hs.env 55 (.v _) _ rfl rfl rfl) rfl
end Go.Proofs.Ythkmfihbpbehfaa
