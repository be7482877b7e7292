/-
Package net: Send: the walk.
-/
import Derived.Test.YthkmfihbpbehfaaNetOwn
namespace Go.Proofs.Ythkmfihbpbehfaa
set_option linter.unusedVariables false
set_option linter.unusedSimpArgs false
open Go.TR
theorem sendQ_bad {n : NP} {l : Ltr} {fs : List Int} {e : Int} (h : sendE n fs = e) (h0 : e ≠ 0) (F : Hp) : SendQ n l fs (pair NP.none.v (i64 e)) F := by
  subst h
  exact ⟨NP.none, rfl, NP.none_at F, by decide, by rw [if_neg h0]; rfl, by rw [if_neg h0]; rfl⟩
theorem sendQ_ok {n : NP} {l : Ltr} {fs : List Int} {F : Hp} (h : sendE n fs = 0) (M : List LP) {p : Option Addr} {c len : Nat} (hlen : M.length = len) (hM : M.map LP.l = sendL n l fs) (hl : M.length ≤ 60) (hf : Frow F p (M.flatMap LP.row)) (ha : ∀ x ∈ M, x.at F) : SendQ n l fs (pair (.agg #[i64 n.now, .slice p len c]) (i64 0)) F := by
  subst hlen
  exact ⟨⟨n.now, M, p, c⟩, by rw [h], ⟨hf, ha⟩, by simp only; omega, by rw [if_pos h], by rw [if_pos h]; exact hM⟩
theorem bad_range {fs : List Int} (h : fs.any badFate = false) {k : Nat} (hk : k < fs.length) : 1 ≤ fs[k] ∧ fs[k] ≤ 100 := by
  have := List.any_eq_false.1 h _ (List.getElem_mem hk)
  simp only [badFate, Bool.or_eq_true, decide_eq_true_eq, not_or] at this
  omega
/-- What is known where the letters that wait have been laid down anew. -/
def SendJ (n : NP) (F : Hp) (q : Hp × List LP × Option Nat × Nat × Nat) : Prop := F.sub q.1 ∧ q.2.1.map LP.l = n.way.map LP.l ∧ (∀ y ∈ q.2.1, y.at q.1) ∧ n.way.length ≤ q.2.2.2.1 ∧ (q.2.2.1 = none → n.way.length = 0 ∧ q.2.2.2.1 = 0)
def SendI (n : NP) (l : Ltr) (fs : List Int) (F : Hp) (q : Nat × List LP × Hp × Option Nat × Nat) : Prop := q.1 ≤ fs.length ∧ q.2.1.map LP.l = n.way.map LP.l ++ ((fs.take q.1).map fun k => l.by (n.now + k)) ∧ (∀ y ∈ q.2.1, y.at q.2.2.1) ∧ F.sub q.2.2.1 ∧ (q.2.2.2.1 = none → n.way.length + q.1 = 0 ∧ q.2.2.2.2 = 0) ∧ n.way.length + q.1 ≤ q.2.2.2.2
attribute [local irreducible] vc vcOps seqK blockK loopK retK retG retI loopV Plain CallOK CallIn bodied VS vcAny dropG backK brK loopPK IntKind.wrap
set_option maxRecDepth 100000
set_option maxHeartbeats 4000000
theorem fate_ok (k : Int) (F : Hp) : Plain Try.prog F 77 [i64 k] (.bool (badFate k)) := by
  refine plain_vc (N := 9) (rv := [.tmp 2]) tbok mixed Try.func77 rfl rfl rfl rfl rfl ?_
  (refine run ?_; repeat intro b)
  rw [bpick_or]
  rfl
theorem netsend_ok (n : NP) (x : LP) (fs : List Int) {pf : Option Addr} {cf : Nat} {F : Hp} (hl : n.way.length ≤ 4611686018427387904) (hw : ∀ y ∈ n.way, y.l.wf) (hn : n.at F) (wx : x.l.wf) (hx : x.at F) (hfl : fs.length ≤ 4611686018427387904) (hff : Frow F pf (fs.map i64)) :
    CallF Try.prog F 11 [n.v, .agg x.row.toArray, .slice pf fs.length cf] (SendQ n x.l fs) := by
  refine CallOK.drop (call_vc (N := 60) (rv := [.cell 6 24, .tmp 7]) tbok mixed Try.func11 rfl rfl rfl rfl rfl ?_)
  (refine run ?_; repeat intro b)
  rename_i b0 b1
  generalize b = b2
  refine s_plain _ rfl rfl rfl bd14 rfl (netcheck_ok n hl hn) ?_
  (refine run ?_; repeat intro b)
  refine s_if (decide (netFault n ≠ 0)) ?_ (fun h => ?_) (fun h => ?_)
  · refine congrArg (fun b => some (EV.v (.bool b))) ?_
    rw [Bool.eq_iff_iff]; simp
  · have h := of_decide_eq_true h
    (refine run ?_; repeat intro b)
    exact s_retG (VS.id ⟨_, rfl, sendQ_bad (by unfold sendE; rw [if_pos h]) h F⟩)
  · have hz : netFault n = 0 := by have := of_decide_eq_false h; omega
    obtain ⟨z1, z2, z3⟩ := netFault_zero hz
    (refine run ?_; repeat intro b)
    refine s_plain _ rfl rfl rfl bd76 rfl (ints_has badFate _ #[] bd77 fs hff hfl (fun k _ => fate_ok k _)) ?_
    (refine run ?_; repeat intro b)
    refine s_if (fs.any badFate) rfl (fun h => ?_) (fun h => ?_)
    · (refine run ?_; repeat intro b)
      exact s_retG (VS.id ⟨_, rfl, sendQ_bad (e := 4) (by unfold sendE; rw [if_neg (by simpa using hz), if_pos h]) (by decide) F⟩)
    · have hbad := h
      have hE : sendE n fs = if 60 < n.way.length + fs.length then 7 else 0 := by unfold sendE; rw [if_neg (by simpa using hz), if_neg (by rw [h]; decide)]
      (refine run ?_; repeat intro b)
      refine s_if (decide (60 < n.way.length + fs.length)) ?_ (fun h => ?_) (fun h => ?_)
      · refine congrArg (fun b => some (EV.v (.bool b))) ?_
        rw [wrap_i64 (by omega) (by omega), Bool.eq_iff_iff]
        simp
        omega
      · rw [if_pos (of_decide_eq_true h)] at hE
        (refine run ?_; repeat intro b)
        exact s_retG (VS.id ⟨_, rfl, sendQ_bad hE (by decide) F⟩)
      · have hlen := of_decide_eq_false h
        rw [if_neg hlen] at hE
        (refine run ?_; repeat intro b)
        refine s_join (SendJ n F)
          (fun q => ⟨[(2, .v (.slice pf fs.length cf)), (3, .loc 0 0), (4, .loc 1 0), (6, .loc 2 0), (9, .loc 5 0)], q.1, [(0, ⟨some b0, [.v (i64 n.now), .v (.slice n.p n.way.length n.c)], 24, 2⟩), (1, ⟨some b1, x.row.map .v, 36, 12⟩), (2, ⟨some b2, [.v (i64 0), .v (.slice none 0 0)], 24, 2⟩), (5, ⟨some q.2.2.2.2, [.v (i64 n.now), .row 6 0 n.way.length q.2.2.2.1], 24, 2⟩), (6, ⟨q.2.2.1, (q.2.1.flatMap LP.row).map .v, 36, q.2.2.2.1 * 12⟩)], 7⟩) rfl ?rest ?reg
        case reg =>
          intro KK2 kn kr ke
          refine s_regiona [0] (by kernel_rfl) ?_
          refine s_firsts [0, 1, 2, 3] (f' := 4) (by kernel_rfl) rfl rfl rfl ?_
          (refine run ?_; repeat intro b)
          refine s_two 4 6 (by kernel_rfl) rfl rfl rfl ?_ ?_
          · refine s_callN (fun v F' new h => h) rfl rfl rfl bd78 rfl (owned_ok n.way z3 hw hn.way hn.each) (fun F1 blk c1 cs hF1 hc1 hb1 hR => ?_)
            (refine run ?_; repeat intro b)
            refine s_br hF1 ⟨⟨rfl, rfl, rfl, trivial⟩, trivial⟩ ?_
            refine s_firsts [5] (f' := 2) (by kernel_rfl) rfl rfl rfl ?_
            (refine run ?_; repeat intro b)
            refine s_one 6 (by kernel_rfl) rfl rfl ?_
            (refine run ?_; repeat intro b)
            refine s_br (Hp.sub.refl _) ⟨⟨rfl, rfl, rfl, trivial⟩, trivial⟩ ?_
            refine s_one 7 (by kernel_rfl) rfl rfl ?_
            (refine run ?_; repeat intro b)
            refine s_br (Hp.sub.refl _) ⟨⟨rfl, rfl, rfl, trivial⟩, trivial⟩ ?_
            refine s_stop (by kernel_rfl) ?_
            obtain ⟨M, rfl, e2, e3⟩ := hR
            refine kn _ (VS.recell 4 [.v (i64 n.now), .row 3 0 n.way.length c1] rfl ⟨⟨trivial, rfl⟩, ⟨(by decide : 3 < 5), rfl⟩, trivial⟩ rfl ?_)
            exact VS.ren (nx' := 7) [(0, 0), (1, 1), (2, 2), (4, 5), (3, 6)] [2, 3, 4, 6, 9] [(0, ⟨some b0, [.v (i64 n.now), .v (.slice n.p n.way.length n.c)], 24, 2⟩), (1, ⟨some b1, x.row.map .v, 36, 12⟩), (2, ⟨some b2, [.v (i64 0), .v (.slice none 0 0)], 24, 2⟩), (5, ⟨some b, [.v (i64 n.now), .row 6 0 n.way.length c1], 24, 2⟩), (6, ⟨blk, (M.flatMap LP.row).map .v, 36, c1 * 12⟩)]
              ⟨rfl, ⟨_, rfl, rfl, rfl, rfl, .inr rfl⟩, rfl, ⟨_, rfl, rfl, rfl, rfl, .inr rfl⟩, rfl, ⟨_, rfl, rfl, rfl, rfl, .inr rfl⟩, rfl, ⟨_, rfl, rfl, rfl, rfl, .inr rfl⟩, rfl, ⟨_, rfl, rfl, rfl, rfl, .inl ⟨rfl, fun e he => all_v _ e he⟩⟩, trivial⟩ rfl rfl rfl rfl rfl rfl ⟨(F1, M, blk, c1, b), ⟨hF1, e2, e3, hc1, hb1⟩, rfl⟩
          · (refine run ?_; repeat intro b)
            refine s_br (Hp.sub.refl _) ⟨⟨rfl, rfl, rfl, trivial⟩, trivial⟩ ?_
            refine s_one 4 (by kernel_rfl) rfl rfl ?_
            refine s_callN (fun v F' new h => h) rfl rfl rfl bd78 rfl (owned_ok n.way z3 hw hn.way hn.each) (fun F1 blk c1 cs hF1 hc1 hb1 hR => ?_)
            (refine run ?_; repeat intro b)
            refine s_br hF1 ⟨⟨rfl, rfl, rfl, trivial⟩, trivial⟩ ?_
            refine s_firsts [5] (f' := 1) (by kernel_rfl) rfl rfl rfl ?_
            (refine run ?_; repeat intro b)
            refine s_one 7 (by kernel_rfl) rfl rfl ?_
            (refine run ?_; repeat intro b)
            refine s_br (Hp.sub.refl _) ⟨⟨rfl, rfl, rfl, trivial⟩, trivial⟩ ?_
            refine s_stop (by kernel_rfl) ?_
            obtain ⟨M, rfl, e2, e3⟩ := hR
            refine kn _ (VS.recell 3 [.v (i64 n.now), .row 4 0 n.way.length c1] rfl ⟨⟨trivial, rfl⟩, ⟨(by decide : 4 < 5), rfl⟩, trivial⟩ rfl ?_)
            exact VS.ren (nx' := 7) [(0, 0), (1, 1), (2, 2), (3, 5), (4, 6)] [2, 3, 4, 6, 9] [(0, ⟨some b0, [.v (i64 n.now), .v (.slice n.p n.way.length n.c)], 24, 2⟩), (1, ⟨some b1, x.row.map .v, 36, 12⟩), (2, ⟨some b2, [.v (i64 0), .v (.slice none 0 0)], 24, 2⟩), (5, ⟨some b, [.v (i64 n.now), .row 6 0 n.way.length c1], 24, 2⟩), (6, ⟨blk, (M.flatMap LP.row).map .v, 36, c1 * 12⟩)]
              ⟨rfl, ⟨_, rfl, rfl, rfl, rfl, .inr rfl⟩, rfl, ⟨_, rfl, rfl, rfl, rfl, .inr rfl⟩, rfl, ⟨_, rfl, rfl, rfl, rfl, .inr rfl⟩, rfl, ⟨_, rfl, rfl, rfl, rfl, .inr rfl⟩, rfl, ⟨_, rfl, rfl, rfl, rfl, .inl ⟨rfl, fun e he => all_v _ e he⟩⟩, trivial⟩ rfl rfl rfl rfl rfl rfl ⟨(F1, M, blk, c1, b), ⟨hF1, e2, e3, hc1, hb1⟩, rfl⟩
        case rest =>
          rintro ⟨F1, M, blk, c1, b9⟩ ⟨g1, g2, g3, g4, g5⟩
          dsimp only at g1 g2 g3 g4 g5 ⊢
          (refine run ?_; repeat intro b)
          refine s_loopP (SendI n x.l fs F)
            (fun q => ⟨[(3, .loc 0 0), (4, .loc 1 0), (6, .loc 2 0), (9, .loc 5 0), (39, .v (.slice pf fs.length cf)), (40, .v (i64 (fs.length : Nat))), (41, .v (i64 (q.1 : Nat)))], q.2.2.1, [(0, ⟨some b0, [.v (i64 n.now), .v (.slice n.p n.way.length n.c)], 24, 2⟩), (1, ⟨some b1, x.row.map .v, 36, 12⟩), (2, ⟨some b2, [.v (i64 0), .v (.slice none 0 0)], 24, 2⟩), (5, ⟨some b9, [.v (i64 n.now), .row 7 0 (n.way.length + q.1) q.2.2.2.2], 24, 2⟩), (7, ⟨q.2.2.2.1, (q.2.1.flatMap LP.row).map .v, 36, q.2.2.2.2 * 12⟩)], 8⟩) (fun q => fs.length - q.1) (0, M, F1, blk, c1) ⟨Nat.zero_le _, by rw [g2]; simp, g3, g1, g5, g4⟩
            (VS.ren (nx' := 8) [(0, 0), (1, 1), (2, 2), (5, 5), (6, 7)] [3, 4, 6, 9, 39, 40, 41] [(0, ⟨some b0, [.v (i64 n.now), .v (.slice n.p n.way.length n.c)], 24, 2⟩), (1, ⟨some b1, x.row.map .v, 36, 12⟩), (2, ⟨some b2, [.v (i64 0), .v (.slice none 0 0)], 24, 2⟩), (5, ⟨some b9, [.v (i64 n.now), .row 7 0 n.way.length c1], 24, 2⟩), (7, ⟨blk, (M.flatMap LP.row).map .v, 36, c1 * 12⟩)]
              ⟨rfl, ⟨_, rfl, rfl, rfl, rfl, .inr rfl⟩, rfl, ⟨_, rfl, rfl, rfl, rfl, .inr rfl⟩, rfl, ⟨_, rfl, rfl, rfl, rfl, .inr rfl⟩, rfl, ⟨_, rfl, rfl, rfl, rfl, .inr rfl⟩, rfl, ⟨_, rfl, rfl, rfl, rfl, .inl ⟨rfl, fun e he => all_v _ e he⟩⟩, trivial⟩ rfl rfl rfl rfl rfl rfl rfl) ?_
          rintro ⟨k, L, F2, blk2, cap⟩ ⟨h1, h2, h3, h4, h5, h6⟩
          dsimp only at h1 h2 h3 h4 h5 h6 ⊢
          have hL : L.length = n.way.length + k := by
            have := congrArg List.length h2
            simp only [List.length_map, List.length_append, List.length_take] at this
            omega
          by_cases hlt : k < fs.length
          · have g := frow_get hff (j := k) (by rw [List.length_map]; exact hlt)
            rw [List.getElem_map] at g
            obtain ⟨r1, r2⟩ := bad_range hbad hlt
            have h2' : (L.map LP.l) ++ [x.l.by (n.now + fs[k])] = n.way.map LP.l ++ ((fs.take (k + 1)).map fun k => x.l.by (n.now + k)) := by rw [h2, List.take_succ_eq_append_getElem hlt, List.map_append, List.append_assoc]; rfl
            generalize fs[k] = f at g r1 r2 h2'
            have ew : IntKind.i64.wrap (n.now + f) = n.now + f := wrap_i64 (by omega) (by omega)
            (refine run ?_; repeat intro b)
            refine s_if true (by rw [← decide_eq_true (p := ((k : Nat) : Int) < ((fs.length : Nat) : Int)) (by omega)]; rfl) (fun _ => ?_) (fun h => by cases h)
            (refine run ?_; repeat intro b)
            refine s_pureO rfl rfl rfl ⟨by omega, by omega, frow_some hff (j := k) (by rw [List.length_map]; exact hlt)⟩ ?_
            refine s_load (i64 f) rfl rfl rfl rfl (by rw [Int.toNat_natCast, Nat.mul_one]; exact pcell_sub h4 g) ?_
            (refine run ?_; repeat intro b)
            refine s_callF rfl rfl rfl bd79 rfl (own_ok x wx (LP.at_sub h4 hx)) ?_
            rintro _ F3 hF3 ⟨y, rfl, ey, ay⟩
            (refine run ?_; repeat intro b)
            rw [ew]
            refine s_appR rfl rfl rfl rfl rfl rfl rfl rfl (src_row rfl rfl) (one_v _ (lp_one [(⟨y.l.by (n.now + f), y.ph, y.ch, y.a⟩ : LP)])) h5 h6 rfl (by rw [List.length_map, flat_len lp_row, hL]; exact Nat.le_refl _) (by show _ * 152 ≤ _; omega) (fun h => by cases h) (fun _ b3 c3 hc3 => ?_)
            (refine run ?_; repeat intro b)
            have hcells := lp_cells L ⟨y.l.by (n.now + f), y.ph, y.ch, y.a⟩ (n.way.length + k) hL
            rw [wrap_succ (by omega)]
            exact s_loopPq (k + 1, L ++ [(⟨y.l.by (n.now + f), y.ph, y.ch, y.a⟩ : LP)], F3, some b3, c3) 7 [(0, 0), (1, 1), (2, 2), (5, 5), (10, 7)] [3, 4, 6, 9, 39, 40, 41] [(0, ⟨some b0, [.v (i64 n.now), .v (.slice n.p n.way.length n.c)], 24, 2⟩), (1, ⟨some b1, x.row.map .v, 36, 12⟩), (2, ⟨some b2, [.v (i64 0), .v (.slice none 0 0)], 24, 2⟩), (5, ⟨some b9, [.v (i64 n.now), .row 7 0 (n.way.length + (k + 1)) c3], 24, 2⟩), (7, ⟨some b3, ((L ++ [(⟨y.l.by (n.now + f), y.ph, y.ch, y.a⟩ : LP)]).flatMap LP.row).map .v, 36, c3 * 12⟩)]
              ⟨hlt, by rw [List.map_append, ← h2', ← ey]; rfl, fun z hz => by rcases List.mem_append.1 hz with hz | hz; exact LP.at_sub hF3 (h3 z hz); rw [List.mem_singleton.1 hz]; exact ⟨ay.heads, ay.prf⟩, h4.trans hF3, (fun h => by cases h), hc3⟩ (by simp only; omega) (Nat.min_le_left _ _)
              ⟨rfl, ⟨_, rfl, rfl, rfl, rfl, .inr rfl⟩, rfl, ⟨_, rfl, rfl, rfl, rfl, .inr rfl⟩, rfl, ⟨_, rfl, rfl, rfl, rfl, .inr rfl⟩, rfl, ⟨_, rfl, rfl, rfl, rfl, .inr rfl⟩, rfl, ⟨_, rfl, rfl, rfl, rfl, .inl ⟨hcells.symm, fun e he => all_v _ e (hcells ▸ he)⟩⟩, trivial⟩ rfl rfl rfl rfl rfl rfl rfl
          · have hge : k = fs.length := by omega
            subst hge
            rw [List.take_length] at h2
            (refine run ?_; repeat intro b)
            refine s_if false (by rw [← decide_eq_false (p := ((fs.length : Nat) : Int) < ((fs.length : Nat) : Int)) (by omega)]; rfl) (fun h => by cases h) (fun _ => ?_)
            (refine run ?_; repeat intro b)
            cases blk2 with
            | none =>
              obtain ⟨e1, e2⟩ := h5 rfl
              have e3 : L = [] := List.eq_nil_of_length_eq_zero (by omega)
              subst e3
              exact s_retG (VS.id ⟨_, rfl, sendQ_ok hE [] hL h2 (by decide) (frow_nil _ _) (by simp)⟩)
            | some b5 =>
              exact s_retG (VS.freeze 7 [6, 7] rfl (allV_map_v _) rfl rfl fun F4 hs4 hf4 => VS.id ⟨_, rfl, sendQ_ok hE L hL h2 (by omega) hf4 (fun z hz => LP.at_sub hs4 (h3 z hz))⟩)
end Go.Proofs.Ythkmfihbpbehfaa
