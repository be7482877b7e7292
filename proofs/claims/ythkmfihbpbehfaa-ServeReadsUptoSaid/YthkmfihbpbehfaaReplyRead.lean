/-
tallyrollref.ReplyRead: the walk.
-/
import Derived.Test.YthkmfihbpbehfaaSetReplySaid
import Derived.Test.YthkmfihbpbehfaaSetFwR
namespace Go.Proofs.Ythkmfihbpbehfaa
set_option linter.unusedVariables false
set_option linter.unusedSimpArgs false
open Go.TR
/-- What ReplyRead tests. -/
def rr1 (s : List UInt8) : Bool := decide (s.length ≤ 600) && readOk s && decide ((readL s).length = 4) && decide (((readL s).getD 0 []).length = 33) && decide (((readL s).getD 2 []).length = 128)
def rr2 (s : List UInt8) : Bool := decide (numAt ((readL s).getD 0 []) 0 ≤ 1000000) && decide (numAt ((readL s).getD 0 []) 3 ≤ 1000000000)
def rr3 (s : List UInt8) : Bool := readOk ((readL s).getD 3 []) && decide ((readL ((readL s).getD 3 [])).length % 2 = 0)
def rrH (s : List UInt8) : Head := headOf ((readL s).getD 0 [])
def rrP (s : List UInt8) : Prf := rdP ((readL s).getD 1 []) ((readL s).getD 2 []) (readL ((readL s).getD 3 []))
def rr4 (s : List UInt8) : Bool := decide (replyF (rrH s) (rrP s) = 0) && (rsB (rrH s) (rrP s) && decide (rsO (rrH s) (rrP s) = s))
def rrB (s : List UInt8) : Bool := rr1 s && rr2 s && rr3 s && rr4 s
/-- What ReplyRead answers. -/
def RrQ (s : List UInt8) (x : Value) (F' : Hp) : Prop := ∃ h p a, x = pair (repV h p a) (.bool (rrB s)) ∧ p.at F' a ∧ (rrB s = true → h = rrH s ∧ p = rrP s)
theorem rrq_no {s : List UInt8} {F' : Hp} (h : rrB s = false) : RrQ s (pair zrep (.bool false)) F' := ⟨⟨0, 0, 0, 0⟩, ⟨[], [], []⟩, ⟨none, 0, none, 0⟩, by rw [h]; rfl, ⟨frow_nil _ _, frow_nil _ _⟩, fun e => by rw [h] at e; cases e⟩
theorem rr_g1 {s : List UInt8} (h : bpick (bpick (decide (600 < (((bl (mkB s)).length : Nat) : Int))) true (!readOk s)) true ((((readL s).length : Nat) : Int) != 4) = false) : s.length ≤ 600 ∧ readOk s = true ∧ (readL s).length = 4 := by
  rw [bpick_or, bpick_or, bl_S] at h
  simp at h
  obtain ⟨⟨h1, h2⟩, h3⟩ := h
  exact ⟨by omega, h2, by omega⟩
theorem bpick_f {a b : Bool} (h : bpick a true b = false) : a = false ∧ b = false := by
  rw [bpick_or] at h
  simpa using h
theorem readL_part {s x : List UInt8} (h : x ∈ readL s) : x.length ≤ s.length := by
  unfold readL at h
  split at h
  · rename_i l hl
    exact partsN_part _ _ _ hl x h
  · cases h
theorem getDL_le {L : List (List UInt8)} {n : Nat} (h : ∀ x ∈ L, x.length ≤ n) (k : Nat) : (L.getD k []).length ≤ n := by
  rw [List.getD_eq_getElem?_getD]
  cases hk : L[k]? with
  | none => simp
  | some x => exact h x (List.mem_of_getElem? hk)
theorem readOk_60 {s : List UInt8} (h : readOk s = true) : (readL s).length ≤ 60 := by
  unfold readOk at h
  unfold readL
  split at h
  · simpa using h
  · cases h
theorem pieceN_lt (t : List UInt8) (k : Nat) : pieceN t k < 18446744073709551616 := readN_lt _
theorem entsR_def (L : List (List UInt8)) (k : Nat) : entsR L k = (List.range k).map (entR L) := rfl
theorem sidesR_def (t : List UInt8) (k : Nat) : sidesR t k = (List.range k).map (pieceN t) := rfl
theorem num_piece {s : List UInt8} (h : s.length = 33) {i : Nat} (hi : i < 4) : pieceN (s.drop 1) i = numAt s i := by
  have e : (((s.drop 1).take (8 * i + 8)).drop (8 * i)) = (s.take (9 + 8 * i)).drop (1 + 8 * i) := by
    rw [List.take_drop, List.drop_drop]
    congr 2
    omega
  unfold pieceN numAt
  rw [e]
  unfold readN
  rw [if_pos (piece_length s i h hi)]
theorem frow_getD {F : Hp} {p : Option Addr} {L : List (List UInt8)} (h : Frow F p (L.map S)) {k : Nat} (hk : k < L.length) : Pcell F (padd p k) = some (S (L.getD k [])) := by
  refine h k _ ?_
  rw [List.getElem?_map, List.getD_eq_getElem?_getD, List.getElem?_eq_getElem hk]
  rfl
attribute [local irreducible] vc vcOps seqK blockK loopK retK retG retI loopV Plain CallOK CallIn bodied VS vcAny dropG backK brK loopPK IntKind.wrap
attribute [local irreducible] readL readOk readN sidesR entsR pieceN muW enW numAt replyF rsB rsO rrB RrQ
set_option maxRecDepth 100000
set_option maxHeartbeats 4000000
/-- A number of 32 bytes. -/
theorem rr1_ok (t : List UInt8) (k : Nat) (hk : 8 * k + 8 ≤ t.length) (hs : t.length ≤ 1000) (F : Hp) : Plain Try.prog F 128 [S t, i64 (k : Nat)] (u64 (pieceN t k : Nat)) := by
  refine plain_vc (N := 19) (rv := [.tmp 4]) tbok mixed Try.func128 rfl rfl rfl rfl rfl ?_
  have e1 : IntKind.i64.wrap (8 * (k : Int)) = ((8 * k : Nat) : Int) := by rw [wrap_i64 (by omega) (by omega)]; omega
  have e2 : IntKind.i64.wrap (((8 * k : Nat) : Int) + 8) = ((8 * k + 8 : Nat) : Int) := by rw [wrap_i64 (by omega) (by omega)]; omega
  (refine run ?_; repeat intro b)
  rw [e1, e2]
  refine s_pureO rfl rfl rfl ⟨by omega, by omega, by rw [bl_S]; omega⟩ ?_
  rw [bl_S, Int.toNat_natCast, Int.toNat_natCast]
  refine s_plain _ rfl rfl rfl bd129 rfl (numread_ok _ F) ?_
  rw [pieceN_eq]
  (refine run ?_; repeat intro b)
  rfl
theorem replyread_ok (s : List UInt8) (hs : s.length ≤ 1048576) (F : Hp) : CallF Try.prog F 74 [S s] (RrQ s) := by
  refine CallOK.drop ?_
  refine call_vc (N := 153) (rv := [.cell 2 34, .tmp 3]) tbok mixed Try.func74 rfl rfl rfl rfl rfl ?_
  (refine run ?_; repeat intro b)
  rename_i b2
  revert b; intro b4
  refine s_callF rfl rfl rfl bd127 rfl (partsread_okL s hs F) ?_
  rintro _ F1 hF1 ⟨p1, c1, rfl, hf1⟩
  (refine run ?_; repeat intro b)
  have fs : 0 < (readL s).length → p1.isSome = true := fun h => frow_some hf1 (j := 0) (by rw [List.length_map]; exact h)
  refine s_gpureO rfl rfl rfl rfl rfl (fun hg => by
    obtain ⟨_, _, h4⟩ := rr_g1 hg.1
    exact ⟨by decide, by omega, fs (by omega)⟩) ?_
  refine s_gload (S ((readL s).getD 0 [])) rfl rfl rfl rfl rfl rfl (fun hg => by
    obtain ⟨_, _, h4⟩ := rr_g1 hg.1
    exact frow_getD (k := 0) hf1 (by omega)) ?_
  (refine run ?_; repeat intro b)
  refine s_gpureO rfl rfl rfl rfl rfl (fun hg => by
    obtain ⟨_, _, h4⟩ := rr_g1 (bpick_f hg.1).1
    exact ⟨by decide, by omega, fs (by omega)⟩) ?_
  refine s_gload (S ((readL s).getD 2 [])) rfl rfl rfl rfl rfl rfl (fun hg => by
    obtain ⟨_, _, h4⟩ := rr_g1 (bpick_f hg.1).1
    exact frow_getD (k := 2) hf1 (by omega)) ?_
  (refine run ?_; repeat intro b)
  refine s_if (!rr1 s) ?_ (fun h1 => ?_) (fun h1 => ?_)
  · refine congrArg (fun b => some (EV.v (.bool b))) ?_
    rw [bpick_or, bpick_or, bpick_or, bpick_or, bl_S, bl_S, bl_S]
    unfold rr1
    generalize readOk s = ok
    rw [Bool.eq_iff_iff]
    cases ok <;> simp <;> omega
  · have hno : rrB s = false := by unfold rrB; rw [show rr1 s = false by simpa using h1]; rfl
    (refine run ?_; repeat intro b)
    exact s_retG (VS.id ⟨_, rfl, rrq_no hno⟩)
  · have h1 : rr1 s = true := by simpa using h1
    have g1 := h1
    unfold rr1 at g1
    simp only [Bool.and_eq_true, decide_eq_true_eq] at g1
    obtain ⟨⟨⟨⟨hl, hok⟩, h4⟩, h33⟩, h128⟩ := g1
    have k0 := frow_getD (k := 0) hf1 (by omega)
    have k1 := frow_getD (k := 1) hf1 (by omega)
    have k2 := frow_getD (k := 2) hf1 (by omega)
    have k3 := frow_getD (k := 3) hf1 (by omega)
    have kp := fs (by omega)
    rw [h4]
    obtain ⟨l0, e0⟩ : ∃ l, (readL s).getD 0 [] = l := ⟨_, rfl⟩
    obtain ⟨l1, e1⟩ : ∃ l, (readL s).getD 1 [] = l := ⟨_, rfl⟩
    obtain ⟨l2, e2⟩ : ∃ l, (readL s).getD 2 [] = l := ⟨_, rfl⟩
    obtain ⟨l3, e3⟩ : ∃ l, (readL s).getD 3 [] = l := ⟨_, rfl⟩
    rw [e0] at k0 h33
    rw [e1] at k1
    rw [e2] at k2 h128
    rw [e3] at k3
    rw [e0, e2]
    (refine run ?_; repeat intro b)
    refine s_pureO rfl rfl rfl ⟨by decide, by decide, kp⟩ ?_
    refine s_load (S l0) rfl rfl rfl rfl k0 ?_
    (refine run ?_; repeat intro b)
    refine s_pureO rfl rfl rfl ⟨by decide, by rw [bl_S]; omega⟩ ?_
    have ed : (bl (mkB l0)).drop (Int.toNat 1) = l0.drop 1 := by rw [bl_S]; rfl
    rw [ed]
    have hd : (l0.drop 1).length = 32 := by rw [List.length_drop]; omega
    have q0 := rr1_ok (l0.drop 1) 0 (by omega) (by omega) F1
    have q1 := rr1_ok (l0.drop 1) 1 (by omega) (by omega) F1
    have q2 := rr1_ok (l0.drop 1) 2 (by omega) (by omega) F1
    have q3 := rr1_ok (l0.drop 1) 3 (by omega) (by omega) F1
    rw [num_piece h33 (by decide)] at q0 q1 q2 q3
    (refine run ?_; repeat intro b)
    refine s_plain _ rfl rfl rfl bd128 rfl q0 ?_
    (refine run ?_; repeat intro b)
    refine s_gplain _ rfl rfl rfl rfl bd128 rfl rfl (fun _ => q3) ?_
    (refine run ?_; repeat intro b)
    refine s_if (!rr2 s) ?_ (fun h2 => ?_) (fun h2 => ?_)
    · refine congrArg (fun b => some (EV.v (.bool b))) ?_
      rw [bpick_or]
      unfold rr2
      rw [e0, Bool.eq_iff_iff]
      simp
      omega
    · have hno : rrB s = false := by unfold rrB; rw [show rr2 s = false by simpa using h2, Bool.and_false]; rfl
      (refine run ?_; repeat intro b)
      exact s_retG (VS.id ⟨_, rfl, rrq_no hno⟩)
    · have h2 : rr2 s = true := by simpa using h2
      (refine run ?_; repeat intro b)
      refine s_regiona [] (by kernel_rfl) ?_
      refine s_firsts [0, 1, 2, 3, 4, 5, 6, 7, 8, 9, 10, 11, 12, 13, 14, 15, 16, 17, 18, 19] (f' := 2) (by kernel_rfl) rfl rfl rfl ?_
      (refine run ?_; repeat intro b)
      refine s_plain _ rfl rfl rfl bd128 rfl q0 ?_
      (refine run ?_; repeat intro b)
      refine s_plain _ rfl rfl rfl bd128 rfl q1 ?_
      (refine run ?_; repeat intro b)
      refine s_plain _ rfl rfl rfl bd128 rfl q2 ?_
      (refine run ?_; repeat intro b)
      refine s_plain _ rfl rfl rfl bd128 rfl q3 ?_
      (refine run ?_; repeat intro b)
      refine s_pureO rfl rfl rfl ⟨by decide, by decide, kp⟩ ?_
      refine s_load (S l1) rfl rfl rfl rfl k1 ?_
      (refine run ?_; repeat intro b)
      refine s_one 20 (by kernel_rfl) rfl rfl ?_
      (refine run ?_; repeat intro b)
      revert b; intro b9
      refine s_br (Hp.sub.refl _) trivial ?_
      refine s_one 21 (by kernel_rfl) rfl rfl ?_
      (refine run ?_; repeat intro b)
      refine s_br (Hp.sub.refl _) trivial ?_
      refine s_stop (by kernel_rfl) ?_
      (refine run ?_; repeat intro b)
      refine s_loopP (fun q : Nat × Option Nat × Nat => q.1 ≤ 16 ∧ (q.2.1 = none → q.1 = 0 ∧ q.2.2 = 0) ∧ q.1 ≤ q.2.2)
        (fun q => ⟨[(0, .v (S s)), (2, .loc 0 0), (4, .loc 1 0), (5, .v (.slice p1 4 c1)), (7, .v (.func (.func 128) #[] #[])), (9, .loc 2 0), (81, .v (i64 (q.1 : Nat)))], F1, [(4, ⟨none, [], 107, 0⟩), (3, ⟨q.2.1, muW (sidesR l2 q.1), 26, q.2.2 * 1⟩), (2, ⟨some b9, [.v (i64 (headOf l0).epoch), .v (u64 ((headOf l0).root : Nat)), .v (u64 ((headOf l0).prev : Nat)), .v (i64 (headOf l0).at_), .v (S l1), .row 4 0 0 0, .row 3 0 q.1 q.2.2], 34, 7⟩), (1, ⟨some b4, [.v (i64 0), .v (u64 0), .v (u64 0), .v (i64 0), .v (S []), .v (.slice none 0 0), .v (.slice none 0 0)], 34, 7⟩), (0, ⟨some b2, [.v (i64 0), .v (u64 0), .v (u64 0), .v (i64 0), .v (S []), .v (.slice none 0 0), .v (.slice none 0 0)], 34, 7⟩)], 5⟩) (fun q => 16 - q.1) (0, none, 0) ⟨Nat.zero_le _, fun _ => ⟨rfl, rfl⟩, Nat.le_refl _⟩
        (VS.trans (VS.keepN [0, 2, 4, 5, 7, 9, 81] rfl (VS.addnil 26 (VS.addnil 107 (VS.recell 2 ([.v (i64 (headOf l0).epoch), .v (u64 ((headOf l0).root : Nat)), .v (u64 ((headOf l0).prev : Nat)), .v (i64 (headOf l0).at_), .v (S l1), .row 4 0 0 0, .row 3 0 0 0]) rfl ⟨⟨trivial, rfl⟩, ⟨trivial, rfl⟩, ⟨trivial, rfl⟩, ⟨trivial, rfl⟩, ⟨trivial, rfl⟩, ⟨(by decide : 4 < 5), rfl⟩, ⟨(by decide : 3 < 5), rfl⟩, trivial⟩ rfl (VS.id (by rw [sidesR_zero, muW_nil]; rfl))))))) ?_
      rintro ⟨k, blk, cap⟩ ⟨g1, g2, g3⟩
      dsimp only at g1 g2 g3 ⊢
      by_cases hlt : k < 16
      · have hp := rr1_ok l2 k (by omega) (by omega) F1
        have hpl : (muW (sidesR l2 k)).length = k * 1 := by rw [muW_len, sidesR_len]; exact (Nat.mul_one _).symm
        have hcells : (muW (sidesR l2 k)).take (k * 1) ++ [.v (mu (pieceN l2 k))] = muW (sidesR l2 (k + 1)) := by
          have := muW_snoc (sidesR l2 k) (pieceN l2 k)
          rw [sidesR_len] at this
          rw [sidesR_succ, ← this]
        have hall : ∀ e ∈ (muW (sidesR l2 k)).take (k * 1) ++ [.v (mu (pieceN l2 k))], ∃ v, e = EV.v v := fun e he => by
          rw [hcells] at he
          exact muW_all _ e he
        (refine run ?_; repeat intro b)
        refine s_if true (by rw [← decide_eq_true (p := ((k : Nat) : Int) < 16) (by omega)]; rfl) (fun _ => ?_) (fun h => by cases h)
        (refine run ?_; repeat intro b)
        refine s_regiona [] (by kernel_rfl) ?_
        refine s_firsts [3, 4, 5, 6, 7, 8, 0, 1] (f' := 6) (by kernel_rfl) rfl rfl rfl ?_
        (refine run ?_; repeat intro b)
        refine s_pureO rfl rfl rfl ⟨by decide, by decide, kp⟩ ?_
        refine s_load (S l2) rfl rfl rfl rfl k2 ?_
        (refine run ?_; repeat intro b)
        refine s_plain _ rfl rfl rfl bd128 rfl hp ?_
        (refine run ?_; repeat intro b)
        refine s_two 2 9 (by kernel_rfl) rfl rfl rfl ?_ ?_
        · (refine run ?_; repeat intro b)
          refine s_br (Hp.sub.refl _) trivial ?_
          refine s_one 9 (by kernel_rfl) rfl rfl ?_
          (refine run ?_; repeat intro b)
          refine s_br (Hp.sub.refl _) trivial ?_
          refine s_one 10 (by kernel_rfl) rfl rfl ?_
          refine s_appR rfl rfl rfl rfl rfl rfl rfl rfl (src_row rfl rfl) (one_v _ (l := [mu (pieceN l2 k)]) (by simp [one])) g2 g3 rfl (by rw [hpl]; exact Nat.le_refl _) (by show _ * 8 ≤ _; omega) (fun h => by cases h) (fun _ b5 c5 hc5 => ?_)
          (refine run ?_; repeat intro b)
          refine s_br (Hp.sub.refl _) trivial ?_
          refine s_one 11 (by kernel_rfl) rfl rfl ?_
          (refine run ?_; repeat intro b)
          refine s_br (Hp.sub.refl _) trivial ?_
          refine s_one 12 (by kernel_rfl) rfl rfl ?_
          (refine run ?_; repeat intro b)
          refine s_br (Hp.sub.refl _) trivial ?_
          refine s_one 13 (by kernel_rfl) rfl rfl ?_
          (refine run ?_; repeat intro b)
          refine s_br (Hp.sub.refl _) trivial ?_
          refine s_stop (by kernel_rfl) ?_
          (refine run ?_; repeat intro b)
          rw [wrap_succ (by omega)]
          exact s_loopPq (k + 1, some b5, c5) 3 [(4, 4), (6, 3), (2, 2), (1, 1), (0, 0)] [0, 2, 4, 5, 7, 9, 81] [(4, ⟨none, [], 107, 0⟩), (3, ⟨some b5, muW (sidesR l2 (k + 1)), 26, c5 * 1⟩), (2, ⟨some b9, [.v (i64 (headOf l0).epoch), .v (u64 ((headOf l0).root : Nat)), .v (u64 ((headOf l0).prev : Nat)), .v (i64 (headOf l0).at_), .v (S l1), .row 4 0 0 0, .row 3 0 (k + 1) c5], 34, 7⟩), (1, ⟨some b4, [.v (i64 0), .v (u64 0), .v (u64 0), .v (i64 0), .v (S []), .v (.slice none 0 0), .v (.slice none 0 0)], 34, 7⟩), (0, ⟨some b2, [.v (i64 0), .v (u64 0), .v (u64 0), .v (i64 0), .v (S []), .v (.slice none 0 0), .v (.slice none 0 0)], 34, 7⟩)]
            ⟨by omega, (fun h => by cases h), hc5⟩ (by simp only; omega) (Nat.min_le_left _ _)
            ⟨rfl, ⟨_, rfl, rfl, rfl, rfl, .inr rfl⟩, rfl, ⟨_, rfl, rfl, rfl, rfl, .inl ⟨hcells.symm, hall⟩⟩, rfl, ⟨_, rfl, rfl, rfl, rfl, .inr rfl⟩, rfl, ⟨_, rfl, rfl, rfl, rfl, .inr rfl⟩, rfl, ⟨_, rfl, rfl, rfl, rfl, .inr rfl⟩, trivial⟩ rfl rfl rfl rfl rfl rfl rfl
        · (refine run ?_; repeat intro b)
          refine s_br (Hp.sub.refl _) trivial ?_
          refine s_one 2 (by kernel_rfl) rfl rfl ?_
          (refine run ?_; repeat intro b)
          refine s_br (Hp.sub.refl _) trivial ?_
          refine s_one 10 (by kernel_rfl) rfl rfl ?_
          refine s_appR rfl rfl rfl rfl rfl rfl rfl rfl (src_row rfl rfl) (one_v _ (l := [mu (pieceN l2 k)]) (by simp [one])) g2 g3 rfl (by rw [hpl]; exact Nat.le_refl _) (by show _ * 8 ≤ _; omega) (fun h => by cases h) (fun _ b5 c5 hc5 => ?_)
          (refine run ?_; repeat intro b)
          refine s_br (Hp.sub.refl _) trivial ?_
          refine s_one 11 (by kernel_rfl) rfl rfl ?_
          (refine run ?_; repeat intro b)
          refine s_br (Hp.sub.refl _) trivial ?_
          refine s_one 12 (by kernel_rfl) rfl rfl ?_
          (refine run ?_; repeat intro b)
          refine s_br (Hp.sub.refl _) trivial ?_
          refine s_one 13 (by kernel_rfl) rfl rfl ?_
          (refine run ?_; repeat intro b)
          refine s_br (Hp.sub.refl _) trivial ?_
          refine s_stop (by kernel_rfl) ?_
          (refine run ?_; repeat intro b)
          rw [wrap_succ (by omega)]
          exact s_loopPq (k + 1, some b5, c5) 3 [(4, 4), (6, 3), (2, 2), (1, 1), (0, 0)] [0, 2, 4, 5, 7, 9, 81] [(4, ⟨none, [], 107, 0⟩), (3, ⟨some b5, muW (sidesR l2 (k + 1)), 26, c5 * 1⟩), (2, ⟨some b9, [.v (i64 (headOf l0).epoch), .v (u64 ((headOf l0).root : Nat)), .v (u64 ((headOf l0).prev : Nat)), .v (i64 (headOf l0).at_), .v (S l1), .row 4 0 0 0, .row 3 0 (k + 1) c5], 34, 7⟩), (1, ⟨some b4, [.v (i64 0), .v (u64 0), .v (u64 0), .v (i64 0), .v (S []), .v (.slice none 0 0), .v (.slice none 0 0)], 34, 7⟩), (0, ⟨some b2, [.v (i64 0), .v (u64 0), .v (u64 0), .v (i64 0), .v (S []), .v (.slice none 0 0), .v (.slice none 0 0)], 34, 7⟩)]
            ⟨by omega, (fun h => by cases h), hc5⟩ (by simp only; omega) (Nat.min_le_left _ _)
            ⟨rfl, ⟨_, rfl, rfl, rfl, rfl, .inr rfl⟩, rfl, ⟨_, rfl, rfl, rfl, rfl, .inl ⟨hcells.symm, hall⟩⟩, rfl, ⟨_, rfl, rfl, rfl, rfl, .inr rfl⟩, rfl, ⟨_, rfl, rfl, rfl, rfl, .inr rfl⟩, rfl, ⟨_, rfl, rfl, rfl, rfl, .inr rfl⟩, trivial⟩ rfl rfl rfl rfl rfl rfl rfl
      · have hge : k = 16 := by omega
        subst hge
        cases blk with
        | none => exact absurd (g2 rfl).1 (by decide)
        | some b3 =>
        have hl3 : l3.length ≤ 600 := by
          have := getDL_le (L := readL s) (n := s.length) (fun x hx => readL_part hx) 3
          rw [e3] at this
          omega
        (refine run ?_; repeat intro b)
        refine s_pureO rfl rfl rfl ⟨by decide, by decide, kp⟩ ?_
        refine s_load (S l3) rfl rfl rfl rfl k3 ?_
        refine s_callF rfl rfl rfl bd127 rfl (partsread_okL l3 (by omega) F1) ?_
        rintro _ F2 hF2 ⟨p3, c3, rfl, hf3⟩
        (refine run ?_; repeat intro b)
        refine s_if (!rr3 s) ?_ (fun h3 => ?_) (fun h3 => ?_)
        · refine congrArg (fun b => some (EV.v (.bool b))) ?_
          have et : (((readL l3).length : Nat) : Int).tmod 2 = (((readL l3).length % 2 : Nat) : Int) := rfl
          rw [bpick_or, et]
          unfold rr3
          rw [e3]
          generalize readOk l3 = ok
          rw [Bool.eq_iff_iff]
          cases ok <;> simp <;> omega
        · have hno : rrB s = false := by unfold rrB; rw [show rr3 s = false by simpa using h3, Bool.and_false]; rfl
          (refine run ?_; repeat intro b)
          exact s_retG (VS.id ⟨_, rfl, rrq_no hno⟩)
        · have h3 : rr3 s = true := by simpa using h3
          have g3 := h3
          unfold rr3 at g3
          rw [e3] at g3
          simp only [Bool.and_eq_true, decide_eq_true_eq] at g3
          obtain ⟨n, hn⟩ : ∃ n, (readL l3).length = 2 * n := ⟨(readL l3).length / 2, by omega⟩
          have hn2 : (readL l3).length / 2 = n := by omega
          have hP : rrP s = ⟨l1, entsR (readL l3) n, sidesR l2 16⟩ := by unfold rrP rdP; rw [e1, e2, e3, hn2]
          have hH : rrH s = headOf l0 := by unfold rrH; rw [e0]
          have hwh : (headOf l0).wf := headOf_wf l0 h33
          have hl1 : l1.length ≤ 600 := by
            have := getDL_le (L := readL s) (n := s.length) (fun x hx => readL_part hx) 1
            rw [e1] at this
            omega
          have hn60 : 2 * n ≤ 60 := by
            have := readOk_60 g3.1
            omega
          have hw : Prf.wf ⟨l1, entsR (readL l3) n, sidesR l2 16⟩ := ⟨by show l1.length ≤ _; omega, by show (entsR _ _).length ≤ _; rw [entsR_len]; omega, fun x hx => by
            obtain ⟨j, _, rfl⟩ := List.mem_map.1 ((entsR_def _ _) ▸ hx)
            have h1 := getDL_le (L := readL l3) (n := l3.length) (fun x hx => readL_part hx)
            exact ⟨Nat.le_trans (h1 _) (by omega), Nat.le_trans (h1 _) (by omega)⟩, by show (sidesR _ _).length ≤ _; rw [sidesR_len]; decide, fun x hx => by
            obtain ⟨j, _, rfl⟩ := List.mem_map.1 ((sidesR_def _ _) ▸ hx)
            exact pieceN_lt _ _⟩
          rw [hn]
          (refine run ?_; repeat intro b)
          refine s_loopP (fun q : Nat × Option Nat × Nat => q.1 ≤ n ∧ (q.2.1 = none → q.1 = 0 ∧ q.2.2 = 0) ∧ q.1 ≤ q.2.2)
            (fun q => ⟨[(0, .v (S s)), (2, .loc 0 0), (4, .loc 1 0), (9, .loc 2 0), (11, .v (.slice p3 (2 * n) c3)), (12, .v (i64 ((2 * q.1 : Nat) : Int)))], F2, [(5, ⟨q.2.1, enW (entsR (readL l3) q.1), 107, q.2.2 * 2⟩), (3, ⟨some b3, muW (sidesR l2 16), 26, cap * 1⟩), (2, ⟨some b9, [.v (i64 (headOf l0).epoch), .v (u64 ((headOf l0).root : Nat)), .v (u64 ((headOf l0).prev : Nat)), .v (i64 (headOf l0).at_), .v (S l1), .row 5 0 q.1 q.2.2, .row 3 0 16 cap], 34, 7⟩), (1, ⟨some b4, [.v (i64 0), .v (u64 0), .v (u64 0), .v (i64 0), .v (S []), .v (.slice none 0 0), .v (.slice none 0 0)], 34, 7⟩), (0, ⟨some b2, [.v (i64 0), .v (u64 0), .v (u64 0), .v (i64 0), .v (S []), .v (.slice none 0 0), .v (.slice none 0 0)], 34, 7⟩)], 6⟩) (fun q => n - q.1) (0, none, 0) ⟨Nat.zero_le _, fun _ => ⟨rfl, rfl⟩, Nat.le_refl _⟩
            (VS.ren (nx' := 6) [(4, 5), (3, 3), (2, 2), (1, 1), (0, 0)] [0, 2, 4, 9, 11, 12] [(5, ⟨none, enW (entsR (readL l3) 0), 107, 0 * 2⟩), (3, ⟨some b3, muW (sidesR l2 16), 26, cap * 1⟩), (2, ⟨some b9, [.v (i64 (headOf l0).epoch), .v (u64 ((headOf l0).root : Nat)), .v (u64 ((headOf l0).prev : Nat)), .v (i64 (headOf l0).at_), .v (S l1), .row 5 0 0 0, .row 3 0 16 cap], 34, 7⟩), (1, ⟨some b4, [.v (i64 0), .v (u64 0), .v (u64 0), .v (i64 0), .v (S []), .v (.slice none 0 0), .v (.slice none 0 0)], 34, 7⟩), (0, ⟨some b2, [.v (i64 0), .v (u64 0), .v (u64 0), .v (i64 0), .v (S []), .v (.slice none 0 0), .v (.slice none 0 0)], 34, 7⟩)]
              ⟨rfl, ⟨_, rfl, rfl, rfl, rfl, .inl ⟨by rw [entsR_zero, enW_nil], fun e he => by cases he⟩⟩, rfl, ⟨_, rfl, rfl, rfl, rfl, .inl ⟨rfl, muW_all _⟩⟩, rfl, ⟨_, rfl, rfl, rfl, rfl, .inr rfl⟩, rfl, ⟨_, rfl, rfl, rfl, rfl, .inr rfl⟩, rfl, ⟨_, rfl, rfl, rfl, rfl, .inr rfl⟩, trivial⟩ rfl rfl rfl rfl rfl rfl rfl) ?_
          rintro ⟨k, blk, cp⟩ ⟨g4, g5, g6⟩
          dsimp only at g4 g5 g6 ⊢
          by_cases hlt : k < n
          · have fs3 := frow_some hf3 (j := 0) (by rw [List.length_map]; omega)
            have hr0 : Pcell F2 (padd p3 (2 * k)) = some (S (entR (readL l3) k).name) := frow_getD (k := 2 * k) hf3 (by omega)
            have hr1 : Pcell F2 (padd p3 (2 * k + 1)) = some (S (entR (readL l3) k).value) := frow_getD (k := 2 * k + 1) hf3 (by omega)
            have w1 : IntKind.i64.wrap (((2 * k : Nat) : Int) + 1) = ((2 * k + 1 : Nat) : Int) := by rw [wrap_i64 (by omega) (by omega)]; omega
            have w2 : IntKind.i64.wrap (((2 * k : Nat) : Int) + 2) = ((2 * (k + 1) : Nat) : Int) := by rw [wrap_i64 (by omega) (by omega)]; omega
            have hpl : (enW (entsR (readL l3) k)).length = k * 2 := by rw [enW_len, entsR_len]
            have hcells : (enW (entsR (readL l3) k)).take (k * 2) ++ (entR (readL l3) k).row.map EV.v = enW (entsR (readL l3) (k + 1)) := by
              have := enW_snoc (entsR (readL l3) k) (entR (readL l3) k)
              rw [entsR_len] at this
              rw [entsR_succ, ← this]
            have hall : ∀ e ∈ (enW (entsR (readL l3) k)).take (k * 2) ++ (entR (readL l3) k).row.map EV.v, ∃ v, e = EV.v v := fun e he => by
              rw [hcells] at he
              exact enW_all _ e he
            (refine run ?_; repeat intro b)
            refine s_if true (by rw [← decide_eq_true (p := ((2 * k : Nat) : Int) < ((2 * n : Nat) : Int)) (by omega)]; rfl) (fun _ => ?_) (fun h => by cases h)
            (refine run ?_; repeat intro b)
            refine s_regiona [] (by kernel_rfl) ?_
            refine s_firsts [3, 4, 5, 6, 7, 8, 9, 10, 11, 12, 0, 1] (f' := 6) (by kernel_rfl) rfl rfl rfl ?_
            (refine run ?_; repeat intro b)
            refine s_pureO rfl rfl rfl ⟨by omega, by omega, fs3⟩ ?_
            refine s_load (S (entR (readL l3) k).name) rfl rfl rfl rfl (by rw [Int.toNat_natCast, Nat.mul_one]; exact hr0) ?_
            (refine run ?_; repeat intro b)
            rw [w1]
            refine s_pureO rfl rfl rfl ⟨by omega, by omega, fs3⟩ ?_
            refine s_load (S (entR (readL l3) k).value) rfl rfl rfl rfl (by rw [Int.toNat_natCast, Nat.mul_one]; exact hr1) ?_
            (refine run ?_; repeat intro b)
            refine s_two 2 13 (by kernel_rfl) rfl rfl rfl ?_ ?_
            · (refine run ?_; repeat intro b)
              refine s_br (Hp.sub.refl _) trivial ?_
              refine s_one 13 (by kernel_rfl) rfl rfl ?_
              (refine run ?_; repeat intro b)
              refine s_br (Hp.sub.refl _) trivial ?_
              refine s_one 14 (by kernel_rfl) rfl rfl ?_
              refine s_appR rfl rfl rfl rfl rfl rfl rfl rfl (src_row rfl rfl) (one_v _ (l := (entR (readL l3) k).row) (by simp [one, Entry.row])) g5 g6 rfl (by rw [hpl]; exact Nat.le_refl _) (by show _ * 32 ≤ _; omega) (fun h => by cases h) (fun _ b5 c5 hc5 => ?_)
              (refine run ?_; repeat intro b)
              refine s_br (Hp.sub.refl _) trivial ?_
              refine s_one 15 (by kernel_rfl) rfl rfl ?_
              (refine run ?_; repeat intro b)
              refine s_br (Hp.sub.refl _) trivial ?_
              refine s_one 16 (by kernel_rfl) rfl rfl ?_
              (refine run ?_; repeat intro b)
              refine s_br (Hp.sub.refl _) trivial ?_
              refine s_one 17 (by kernel_rfl) rfl rfl ?_
              (refine run ?_; repeat intro b)
              refine s_br (Hp.sub.refl _) trivial ?_
              refine s_stop (by kernel_rfl) ?_
              (refine run ?_; repeat intro b)
              rw [w2]
              exact s_loopPq (k + 1, some b5, c5) 5 [(7, 5), (3, 3), (2, 2), (1, 1), (0, 0)] [0, 2, 4, 9, 11, 12] [(5, ⟨some b5, enW (entsR (readL l3) (k + 1)), 107, c5 * 2⟩), (3, ⟨some b3, muW (sidesR l2 16), 26, cap * 1⟩), (2, ⟨some b9, [.v (i64 (headOf l0).epoch), .v (u64 ((headOf l0).root : Nat)), .v (u64 ((headOf l0).prev : Nat)), .v (i64 (headOf l0).at_), .v (S l1), .row 5 0 (k + 1) c5, .row 3 0 16 cap], 34, 7⟩), (1, ⟨some b4, [.v (i64 0), .v (u64 0), .v (u64 0), .v (i64 0), .v (S []), .v (.slice none 0 0), .v (.slice none 0 0)], 34, 7⟩), (0, ⟨some b2, [.v (i64 0), .v (u64 0), .v (u64 0), .v (i64 0), .v (S []), .v (.slice none 0 0), .v (.slice none 0 0)], 34, 7⟩)]
                ⟨by omega, (fun h => by cases h), hc5⟩ (by simp only; omega) (Nat.min_le_left _ _)
                ⟨rfl, ⟨_, rfl, rfl, rfl, rfl, .inl ⟨hcells.symm, hall⟩⟩, rfl, ⟨_, rfl, rfl, rfl, rfl, .inl ⟨rfl, muW_all _⟩⟩, rfl, ⟨_, rfl, rfl, rfl, rfl, .inr rfl⟩, rfl, ⟨_, rfl, rfl, rfl, rfl, .inr rfl⟩, rfl, ⟨_, rfl, rfl, rfl, rfl, .inr rfl⟩, trivial⟩ rfl rfl rfl rfl rfl rfl rfl
            · (refine run ?_; repeat intro b)
              refine s_br (Hp.sub.refl _) trivial ?_
              refine s_one 2 (by kernel_rfl) rfl rfl ?_
              (refine run ?_; repeat intro b)
              refine s_br (Hp.sub.refl _) trivial ?_
              refine s_one 14 (by kernel_rfl) rfl rfl ?_
              refine s_appR rfl rfl rfl rfl rfl rfl rfl rfl (src_row rfl rfl) (one_v _ (l := (entR (readL l3) k).row) (by simp [one, Entry.row])) g5 g6 rfl (by rw [hpl]; exact Nat.le_refl _) (by show _ * 32 ≤ _; omega) (fun h => by cases h) (fun _ b5 c5 hc5 => ?_)
              (refine run ?_; repeat intro b)
              refine s_br (Hp.sub.refl _) trivial ?_
              refine s_one 15 (by kernel_rfl) rfl rfl ?_
              (refine run ?_; repeat intro b)
              refine s_br (Hp.sub.refl _) trivial ?_
              refine s_one 16 (by kernel_rfl) rfl rfl ?_
              (refine run ?_; repeat intro b)
              refine s_br (Hp.sub.refl _) trivial ?_
              refine s_one 17 (by kernel_rfl) rfl rfl ?_
              (refine run ?_; repeat intro b)
              refine s_br (Hp.sub.refl _) trivial ?_
              refine s_stop (by kernel_rfl) ?_
              (refine run ?_; repeat intro b)
              rw [w2]
              exact s_loopPq (k + 1, some b5, c5) 5 [(7, 5), (3, 3), (2, 2), (1, 1), (0, 0)] [0, 2, 4, 9, 11, 12] [(5, ⟨some b5, enW (entsR (readL l3) (k + 1)), 107, c5 * 2⟩), (3, ⟨some b3, muW (sidesR l2 16), 26, cap * 1⟩), (2, ⟨some b9, [.v (i64 (headOf l0).epoch), .v (u64 ((headOf l0).root : Nat)), .v (u64 ((headOf l0).prev : Nat)), .v (i64 (headOf l0).at_), .v (S l1), .row 5 0 (k + 1) c5, .row 3 0 16 cap], 34, 7⟩), (1, ⟨some b4, [.v (i64 0), .v (u64 0), .v (u64 0), .v (i64 0), .v (S []), .v (.slice none 0 0), .v (.slice none 0 0)], 34, 7⟩), (0, ⟨some b2, [.v (i64 0), .v (u64 0), .v (u64 0), .v (i64 0), .v (S []), .v (.slice none 0 0), .v (.slice none 0 0)], 34, 7⟩)]
                ⟨by omega, (fun h => by cases h), hc5⟩ (by simp only; omega) (Nat.min_le_left _ _)
                ⟨rfl, ⟨_, rfl, rfl, rfl, rfl, .inl ⟨hcells.symm, hall⟩⟩, rfl, ⟨_, rfl, rfl, rfl, rfl, .inl ⟨rfl, muW_all _⟩⟩, rfl, ⟨_, rfl, rfl, rfl, rfl, .inr rfl⟩, rfl, ⟨_, rfl, rfl, rfl, rfl, .inr rfl⟩, rfl, ⟨_, rfl, rfl, rfl, rfl, .inr rfl⟩, trivial⟩ rfl rfl rfl rfl rfl rfl rfl
          · have hge : k = n := by omega
            subst hge
            have hfin : ∀ F6 pe ce ok, F2.sub F6 → Frow F6 pe ((entsR (readL l3) k).flatMap Entry.row) → Frow F6 (some ⟨b3, 0, none⟩) ((sidesR l2 16).map mu) → ok = rrB s → RrQ s (pair (.agg #[(i64 (headOf l0).epoch), (u64 ((headOf l0).root : Nat)), (u64 ((headOf l0).prev : Nat)), (i64 (headOf l0).at_), (S l1), .slice pe k ce, .slice (some ⟨b3, 0, none⟩) 16 cap]) (.bool ok)) F6 := fun F6 pe ce ok _ g1 g2 hok => by
              subst hok
              unfold RrQ
              refine ⟨headOf l0, ⟨l1, entsR (readL l3) k, sidesR l2 16⟩, ⟨pe, ce, some ⟨b3, 0, none⟩, cap⟩, ?_, ⟨g1, g2⟩, fun _ => ⟨hH.symm, hP.symm⟩⟩
              unfold repV
              simp only [entsR_len, sidesR_len]
            have hrf : ∀ F6 pe ce, Frow F6 pe ((entsR (readL l3) k).flatMap Entry.row) → Frow F6 (some ⟨b3, 0, none⟩) ((sidesR l2 16).map mu) → Plain Try.prog F6 72 [.agg #[(i64 (headOf l0).epoch), (u64 ((headOf l0).root : Nat)), (u64 ((headOf l0).prev : Nat)), (i64 (headOf l0).at_), (S l1), .slice pe k ce, .slice (some ⟨b3, 0, none⟩) 16 cap]] (i64 (replyF (rrH s) (rrP s))) := fun F6 pe ce g1 g2 => by
              have := refreplyfault_ok (headOf l0) ⟨l1, entsR (readL l3) k, sidesR l2 16⟩ ⟨pe, ce, some ⟨b3, 0, none⟩, cap⟩ hw (F := F6) ⟨g1, g2⟩
              rw [hH, hP]
              simpa only [repV, entsR_len, sidesR_len] using this
            have hrs : ∀ F6 pe ce, replyF (rrH s) (rrP s) = 0 → Frow F6 pe ((entsR (readL l3) k).flatMap Entry.row) → Frow F6 (some ⟨b3, 0, none⟩) ((sidesR l2 16).map mu) → Plain Try.prog F6 73 [.agg #[(i64 (headOf l0).epoch), (u64 ((headOf l0).root : Nat)), (u64 ((headOf l0).prev : Nat)), (i64 (headOf l0).at_), (S l1), .slice pe k ce, .slice (some ⟨b3, 0, none⟩) 16 cap]] (pair (S (rsO (rrH s) (rrP s))) (.bool (rsB (rrH s) (rrP s)))) := fun F6 pe ce h0 g1 g2 => by
              rw [hH, hP] at h0
              have := refreplysaid_ok (headOf l0) ⟨l1, entsR (readL l3) k, sidesR l2 16⟩ ⟨pe, ce, some ⟨b3, 0, none⟩, cap⟩ hwh hw h0 (F := F6) ⟨g1, g2⟩
              rw [hH, hP]
              simpa only [repV, entsR_len, sidesR_len] using this
            (refine run ?_; repeat intro b)
            refine s_if false (by rw [← decide_eq_false (p := ((2 * k : Nat) : Int) < ((2 * k : Nat) : Int)) (by omega)]; rfl) (fun h => by cases h) (fun _ => ?_)
            (refine run ?_; repeat intro b)
            cases blk with
            | none =>
              obtain ⟨h5, h6⟩ := g5 rfl
              subst h6
              have hfe : ∀ F6 : Hp, Frow F6 none ((entsR (readL l3) k).flatMap Entry.row) := fun F6 => by rw [h5, entsR_zero]; exact frow_nil _ _
              refine s_shift (VS.recell 2 ([.v (i64 (headOf l0).epoch), .v (u64 ((headOf l0).root : Nat)), .v (u64 ((headOf l0).prev : Nat)), .v (i64 (headOf l0).at_), .v (S l1), .v (.slice none k 0), .row 3 0 16 cap]) rfl ⟨⟨trivial, rfl⟩, ⟨trivial, rfl⟩, ⟨trivial, rfl⟩, ⟨trivial, rfl⟩, ⟨trivial, rfl⟩, ⟨trivial, by rw [h5]; rfl⟩, ⟨(by decide : 3 < 6), rfl⟩, trivial⟩ rfl (VS.freeze 3 [0, 2, 4, 9, 137] rfl (by unfold muW; exact allV_map_v _) rfl rfl fun F6 hs6 hf6 => VS.id ?_))
              have hfe := hfe F6
              (refine run ?_; repeat intro b)
              refine s_plain _ rfl rfl rfl bd72 rfl (hrf F6 none 0 hfe hf6) ?_
              (refine run ?_; repeat intro b)
              refine s_if (decide (replyF (rrH s) (rrP s) ≠ 0)) ?_ (fun h5 => ?_) (fun h5 => ?_)
              · refine congrArg (fun b => some (EV.v (.bool b))) ?_
                rw [Bool.eq_iff_iff]; simp
              · have hno : rrB s = false := by
                  have hr4 : rr4 s = false := by unfold rr4; rw [decide_eq_false (of_decide_eq_true h5)]; rfl
                  unfold rrB; rw [hr4, Bool.and_false]
                (refine run ?_; repeat intro b)
                exact s_retG (VS.id ⟨_, rfl, rrq_no hno⟩)
              · have h0 : replyF (rrH s) (rrP s) = 0 := by have := of_decide_eq_false h5; omega
                (refine run ?_; repeat intro b)
                refine s_plain _ rfl rfl rfl bd73 rfl (hrs F6 none 0 h0 hfe hf6) ?_
                (refine run ?_; repeat intro b)
                refine s_retG (VS.id ⟨_, rfl, hfin F6 none 0 _ hs6 hfe hf6 ?_⟩)
                rw [bpick_and, bl_S, bl_S]
                unfold rrB rr4
                rw [h1, h2, h3, decide_eq_true h0]
                rfl
            | some b5 =>
              refine s_shift (VS.freeze 5 [0, 2, 4, 9, 137] rfl (by unfold enW; exact allV_map_v _) rfl rfl fun F5 hs5 hfe => VS.freeze 3 [0, 2, 4, 9, 137] rfl (by unfold muW; exact allV_frz _ _ _ _) rfl rfl fun F6 hs6 hf6 => VS.id ?_)
              have hfe := frow_sub hs6 hfe
              have hs6 := hs5.trans hs6
              (refine run ?_; repeat intro b)
              refine s_plain _ rfl rfl rfl bd72 rfl (hrf F6 (some ⟨b5, 0, none⟩) cp hfe hf6) ?_
              (refine run ?_; repeat intro b)
              refine s_if (decide (replyF (rrH s) (rrP s) ≠ 0)) ?_ (fun h5 => ?_) (fun h5 => ?_)
              · refine congrArg (fun b => some (EV.v (.bool b))) ?_
                rw [Bool.eq_iff_iff]; simp
              · have hno : rrB s = false := by
                  have hr4 : rr4 s = false := by unfold rr4; rw [decide_eq_false (of_decide_eq_true h5)]; rfl
                  unfold rrB; rw [hr4, Bool.and_false]
                (refine run ?_; repeat intro b)
                exact s_retG (VS.id ⟨_, rfl, rrq_no hno⟩)
              · have h0 : replyF (rrH s) (rrP s) = 0 := by have := of_decide_eq_false h5; omega
                (refine run ?_; repeat intro b)
                refine s_plain _ rfl rfl rfl bd73 rfl (hrs F6 (some ⟨b5, 0, none⟩) cp h0 hfe hf6) ?_
                (refine run ?_; repeat intro b)
                refine s_retG (VS.id ⟨_, rfl, hfin F6 (some ⟨b5, 0, none⟩) cp _ hs6 hfe hf6 ?_⟩)
                rw [bpick_and, bl_S, bl_S]
                unfold rrB rr4
                rw [h1, h2, h3, decide_eq_true h0]
                rfl
end Go.Proofs.Ythkmfihbpbehfaa
