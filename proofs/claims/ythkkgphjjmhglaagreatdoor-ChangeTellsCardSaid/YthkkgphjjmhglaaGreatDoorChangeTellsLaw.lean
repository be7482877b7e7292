/-
The law of package change: whatever is handed in, each call answers what the reference answers.
-/
import Derived.Test.YthkkgphjjmhglaaGreatDoorChange2
import Derived.Test.YthkkgphjjmhglaaGreatDoorChangeRef2
import Derived.Test.YthkkgphjjmhglaaGreatDoorEqs
namespace Go.Proofs.YthkkgphjjmhglaaGreatDoor
set_option linter.unusedVariables false
set_option linter.unusedSimpArgs false
open Go.TR
theorem ask_name2 {n v : List UInt8} (h : askFault n v = 0) : goodName n = true := by
  unfold askFault at h
  split at h
  · assumption
  · cases h
theorem ask_three (n v : List UInt8) : askFault n v = 0 ∨ askFault n v = 2 ∨ askFault n v = 3 := by
  unfold askFault
  split
  · split <;> simp
  · simp
/-- What the law's own loop makes: the error so far, the book so far. -/
def lawStep (s : Int × List Entry) (x : Entry) : Int × List Entry :=
  if askFault x.name x.value ≠ 0 then (askFault x.name x.value, s.2)
  else if (standsO s.2 x.name).isSome = false ∧ s.2.length = 24 then (7, s.2) else (0, setL s.2 x.name x.value)
theorem set_step {l : List Entry} (h : bookFault l = 0) (x : Entry) : setE l x.name x.value = (lawStep (0, l) x).1 ∧ (setE l x.name x.value = 0 → (lawStep (0, l) x).2 = setL l x.name x.value) := by
  have hs := stands_has l x.name
  unfold lawStep
  by_cases ha : askFault x.name x.value = 0
  · have hg := ask_name2 ha
    have hf := find_good h hg
    have e : setE l x.name x.value = if hasN l x.name = false ∧ l.length = 24 then 7 else 0 := by
      unfold setE
      rw [if_neg (by rw [hf]; decide), if_neg (by rw [ha]; decide)]
    rw [if_neg (by rw [ha]; decide), e]
    simp only [hs]
    by_cases hc : hasN l x.name = false ∧ l.length = 24
    · rw [if_pos hc, if_pos hc]
      exact ⟨rfl, fun h => by cases h⟩
    · rw [if_neg hc, if_neg hc]
      exact ⟨rfl, fun _ => rfl⟩
  · rw [if_pos ha]
    by_cases hg : goodName x.name = true
    · have hf := find_good h hg
      have e : setE l x.name x.value = askFault x.name x.value := by
        unfold setE
        rw [if_neg (by rw [hf]; decide), if_pos ha]
      exact ⟨e, fun h0 => absurd (e ▸ h0) ha⟩
    · have hg : goodName x.name = false := by simpa using hg
      have ea : askFault x.name x.value = 3 := by unfold askFault; rw [if_neg (by rw [hg]; decide)]
      have hf : findE l x.name = 3 := by unfold findE; rw [if_neg (by rw [h]; decide), if_neg (by rw [hg]; decide)]
      have e : setE l x.name x.value = 3 := by
        unfold setE
        rw [if_pos (by rw [hf]; decide), hf]
      exact ⟨e.trans ea.symm, fun h0 => by rw [e] at h0; cases h0⟩
theorem chg_bad {A B : List Entry} (h : chkE A B ≠ 0) : diffO A B = [] ∧ chgO A B = [] ∧ chgN A B = 0 := by
  unfold diffO chgO chgN
  rw [if_neg h, if_neg h, if_neg h]
  exact ⟨rfl, rfl, rfl⟩
theorem chg_good {A B : List Entry} (h : chkE A B = 0) : diffO A B = differN A B ∧ chgO A B = seenN A B 16 [] ∧ chgN A B = cntN A B 16 [] := by
  unfold diffO chgO chgN
  rw [if_pos h, if_pos h, if_pos h]
  exact ⟨rfl, rfl, rfl⟩
theorem eq_str_self (l : List (List UInt8)) {p1 p2 : Option Addr} {c1 c2 : Nat} {F : Hp} (h1 : Frow F p1 (l.map S)) (h2 : Frow F p2 (l.map S)) (hn : l.length ≤ 9223372036854775806) : Plain Tryz.prog F 35 [.slice p1 l.length c1, .slice p2 l.length c2] (.bool true) := by
  have := eq_str l l (c1 := c1) (c2 := c2) h1 h2 hn
  rwa [decide_eq_true rfl] at this
/-- Where the law's loop stands: how far, the error, the book and its place. -/
structure ChS where
  k : Nat
  e : Int
  l : List Entry
  p : Option Addr
  c : Nat
  F : Hp
structure ChS.ok (A C : List Entry) (F0 : Hp) (q : ChS) : Prop where
  k : q.k ≤ C.length
  sub : F0.sub q.F
  row : Frow q.F q.p (q.l.flatMap Entry.row)
  len : q.l.length * 32 ≤ 140737488355328
  e : q.e = 0 ∨ q.e = 2 ∨ q.e = 3 ∨ q.e = 7
  good : q.e = 0 → bookFault A = 0 ∧ bookFault q.l = 0 ∧ (∀ x ∈ q.l, x.wf) ∧ applyF A C = applyF q.l (C.drop q.k)
  bad : q.e ≠ 0 → appE A C = q.e ∧ appO A C = []
def ChS.fin (A C : List Entry) (F0 : Hp) (q : ChS) : Prop := F0.sub q.F ∧ Frow q.F q.p (q.l.flatMap Entry.row) ∧ q.l.length * 32 ≤ 140737488355328 ∧ (q.e = 0 ∨ q.e = 2 ∨ q.e = 3 ∨ q.e = 7) ∧ appE A C = q.e ∧ (q.e = 0 → appO A C = q.l) ∧ (q.e ≠ 0 → appO A C = [])
attribute [local irreducible] vc vcOps seqK blockK loopK retK retG retI loopV Plain CallOK CallIn bodied VS vcAny dropG backK brK loopPK IntKind.wrap
attribute [local irreducible] bookFault goodName standsO differP differN seenN cntN appE appO chkE diffO chgO chgN setE setL applyF askFault
set_option maxRecDepth 100000
set_option maxHeartbeats 8000000
theorem change_tells (A B C : List Entry) {pa pb pc : Option Addr} {ca cb cc : Nat} {F : Hp} (ha32 : A.length * 32 ≤ 140737488355328) (hb32 : B.length * 32 ≤ 140737488355328) (hc32 : C.length * 32 ≤ 140737488355328) (hwa : ∀ x ∈ A, x.wf) (hwb : ∀ x ∈ B, x.wf) (hwc : ∀ x ∈ C, x.wf)
    (hfa : Frow F pa (A.flatMap Entry.row)) (hfb : Frow F pb (B.flatMap Entry.row)) (hfc : Frow F pc (C.flatMap Entry.row)) :
    Plain Tryz.prog F 5 [.slice pa A.length ca, .slice pb B.length cb, .slice pc C.length cc] (.bool true) := by
  have hla : A.length ≤ 4611686018427387904 := by omega
  have hlb : B.length ≤ 4611686018427387904 := by omega
  have hlc : C.length ≤ 4611686018427387904 := by omega
  refine plain_vc (N := 168) (rv := [.tmp 6]) tbok mixed Tryz.func5 rfl rfl rfl rfl rfl ?_
  (refine run ?_; repeat intro b)
  refine s_callF rfl rfl rfl bd27 rfl (cdiff_ok A B hla hlb hwa hwb hfa hfb) ?_
  rintro _ F1 hF1 ⟨p1, c1, rfl, hf1⟩
  (refine run ?_; repeat intro b)
  refine s_callF rfl rfl rfl bd28 rfl (clook_ok A B hla hlb hwa hwb (frow_sub hF1 hfa) (frow_sub hF1 hfb)) ?_
  rintro _ F2 hF2 ⟨p2, c2, rfl, hf2⟩
  have h12 := hF1.trans hF2
  (refine run ?_; repeat intro b)
  refine s_callF rfl rfl rfl bd29 rfl (capply_ok A C hla hlc hwa hwc (frow_sub h12 hfa) (frow_sub h12 hfc)) ?_
  rintro _ F3 hF3 ⟨p3, c3, rfl, hf3⟩
  have h13 := h12.trans hF3
  (refine run ?_; repeat intro b)
  refine s_plain _ rfl rfl rfl bd30 rfl (bookfault_ok A hla hwa (frow_sub h13 hfa)) ?_
  (refine run ?_; repeat intro b)
  refine s_callF rfl rfl rfl bd31 rfl (CallOK.frz (fun h => by rw [List.eq_nil_of_length_eq_zero h]; rfl) (clone_ent (A.flatMap Entry.row) A.length (flat_len entry_row _) (frow_sub h13 hfa) (entry_one _) ha32)) ?_
  rintro _ F4 hF4 ⟨p4, c4, rfl, hc4, hf4⟩
  have h14 := h13.trans hF4
  (refine run ?_; repeat intro b)
  refine s_loopJ 0 (fun q : ChS => q.ok A C F4) (fun q => ⟨[(0, .v (.slice pa A.length ca)), (1, .v (.slice pb B.length cb)), (7, .v (.slice p1 (diffO A B).length c1)), (8, .v (i64 (chkE A B))), (9, .v (.slice p2 (chgO A B).length c2)), (10, .v (i64 (chgN A B : Nat))), (11, .v (i64 (chkE A B))), (12, .v (.slice p3 (appO A C).length c3)), (13, .v (i64 (appE A C))), (14, .v (i64 (bookFault A))), (15, .v (.slice q.p q.l.length q.c)), (16, .v (i64 q.e)), (47, .v (.slice pc C.length cc)), (48, .v (i64 (C.length : Nat))), (49, .v (i64 (q.k : Nat)))], q.F, [], 5⟩) (fun q => C.length - q.k) ⟨0, bookFault A, A, p4, c4, F4⟩
    (fun q : ChS => q.fin A C F4) (fun q => ⟨[(0, .v (.slice pa A.length ca)), (1, .v (.slice pb B.length cb)), (7, .v (.slice p1 (diffO A B).length c1)), (8, .v (i64 (chkE A B))), (9, .v (.slice p2 (chgO A B).length c2)), (10, .v (i64 (chgN A B : Nat))), (11, .v (i64 (chkE A B))), (12, .v (.slice p3 (appO A C).length c3)), (13, .v (i64 (appE A C))), (14, .v (i64 (bookFault A))), (15, .v (.slice q.p q.l.length q.c)), (16, .v (i64 q.e))], q.F, [], 9⟩) ?hi (VS.ren (nx' := 5) [] [0, 1, 7, 8, 9, 10, 11, 12, 13, 14, 15, 16, 47, 48, 49] [] trivial rfl rfl rfl rfl rfl rfl rfl) ?hJ ?hr
  case hi =>
    refine ⟨Nat.zero_le _, Hp.sub.refl _, hf4, ha32, ?_, fun h => ⟨h, h, hwa, rfl⟩, fun h => apply_bad h C⟩
    rcases bookFault_cases A with h | h | h <;> simp [h]
  case hr =>
    rintro ⟨k, e, l, p, c, G⟩ ⟨g1, g2, g3, g4, g5, g6, g7⟩ KK2 kn ke kr
    dsimp only at g1 g2 g3 g4 g5 g6 g7 ⊢
    have hfin : k = C.length → ChS.fin A C F4 ⟨k, e, l, p, c, G⟩ := fun hk => by
      refine ⟨g2, g3, g4, g5, ?_, ?_, fun h => (g7 h).2⟩
      · by_cases h : e = 0
        · obtain ⟨q1, q2, q3, q4⟩ := g6 h
          simp only
          rw [(apply_good q1 C).1, q4, hk, applyF_end, h]
        · exact (g7 h).1
      · intro h
        obtain ⟨q1, q2, q3, q4⟩ := g6 h
        simp only
        rw [(apply_good q1 C).2, q4, hk, applyF_end]
    by_cases hlt : k < C.length
    · have hfc' := frow_sub (h14.trans g2) hfc
      obtain ⟨o1, o2⟩ := frow_agg entry_row (by decide) hfc' k hlt
      have hst := applyF_step (l := l) hlt
      have hwx := hwc _ (List.getElem_mem hlt)
      generalize C[k] = x at o2 hst hwx
      (refine run ?_; repeat intro b)
      refine s_if true (by rw [← decide_eq_true (p := ((k : Nat) : Int) < ((C.length : Nat) : Int)) (by omega)]; rfl) (fun _ => ?_) (fun h => by cases h)
      (refine run ?_; repeat intro b)
      refine s_pureO rfl rfl rfl ⟨by omega, by omega, frow_some hfc (j := k * 2) (by rw [flat_len entry_row]; omega)⟩ ?_
      refine s_loadA x.row rfl rfl rfl rfl rfl (by rw [Int.toNat_natCast]; exact o1) (by rw [Int.toNat_natCast]; exact o2) ?_
      (refine run ?_; repeat intro b)
      refine s_if (decide (e ≠ 0)) ?_ (fun he => ?_) (fun he => ?_)
      · refine congrArg (fun b => some (EV.v (.bool b))) ?_
        rw [Bool.eq_iff_iff]; simp
      · have he := of_decide_eq_true he
        (refine run ?_; repeat intro b)
        exact ke _ (VS.ren (nx' := 9) [] [0, 1, 7, 8, 9, 10, 11, 12, 13, 14, 15, 16] [] trivial rfl rfl rfl rfl rfl rfl ⟨⟨k, e, l, p, c, G⟩, ⟨g2, g3, g4, g5, (g7 he).1, fun h => absurd h he, fun h => (g7 h).2⟩, rfl⟩)
      have he : e = 0 := by have := of_decide_eq_false he; omega
      subst he
      obtain ⟨q1, q2, q3, q4⟩ := g6 rfl
      obtain ⟨s1, s2⟩ := set_step q2 x
      have q4 := q4.trans hst
      have hl6 : l.length ≤ 24 := (bookFault_zero q2).1
      (refine run ?_; repeat intro b)
      refine s_plain _ rfl rfl rfl bd11 rfl (refstands_ok l x.name (by omega) g3) ?_
      (refine run ?_; repeat intro b)
      refine s_plain _ rfl rfl rfl bd32 rfl (askfault_ok x.name x.value hwx.1 G) ?_
      have hset : ∀ e, e ≠ 0 → setE l x.name x.value = e → appE A C = e ∧ appO A C = [] := fun e he h => by
        rw [if_pos (by rw [h]; exact he), h] at q4
        rw [(apply_good q1 C).1, (apply_good q1 C).2, q4]
        exact ⟨rfl, rfl⟩
      rcases ask_three x.name x.value with hq | hq | hq
      · unfold lawStep at s1 s2
        rw [if_neg (by rw [hq]; decide)] at s1 s2
        rw [hq]
        (refine run ?_; repeat intro b)
        refine s_if (decide ((standsO l x.name).isSome = false ∧ l.length = 24)) ?_ (fun h7 => ?_) (fun h7 => ?_)
        · refine congrArg (fun b => some (EV.v (.bool b))) ?_
          rw [bpick_and, Bool.eq_iff_iff]
          simp
          omega
        · rw [if_pos (of_decide_eq_true h7)] at s1
          (refine run ?_; repeat intro b)
          rw [wrap_succ (by omega)]
          exact kn _ (VSf.ren [] [0, 1, 7, 8, 9, 10, 11, 12, 13, 14, 15, 16, 47, 48, 49] [] trivial rfl rfl rfl rfl rfl rfl ⟨⟨k + 1, 7, l, p, c, G⟩, ⟨hlt, g2, g3, g4, .inr (.inr (.inr rfl)), fun h => by simp at h, fun _ => hset 7 (by decide) s1⟩, rfl, by simp only; omega⟩)
        · rw [if_neg (of_decide_eq_false h7)] at s1 s2
          have s1 : setE l x.name x.value = 0 := s1
          have hs := set_fault s1
          rw [if_neg (by rw [s1]; decide)] at q4
          (refine run ?_; repeat intro b)
          refine s_callF rfl rfl rfl bd33 rfl (bookset_ok l x.name x.value (book_of q2) (by omega) q3 hwx.1 g3) ?_
          rintro _ G2 hG2 ⟨p5, c5, rfl, hf5⟩
          (refine run ?_; repeat intro b)
          have h24' := (bookFault_zero hs.1).1
          rw [wrap_succ (by omega)]
          exact kn _ (VSf.ren [] [0, 1, 7, 8, 9, 10, 11, 12, 13, 14, 15, 16, 47, 48, 49] [] trivial rfl rfl rfl rfl rfl rfl ⟨⟨k + 1, 0, setL l x.name x.value, p5, c5, G2⟩, ⟨hlt, g2.trans hG2, hf5, by simp only; omega, .inl rfl, fun _ => ⟨q1, hs.1, fun y hy => by
            rcases hs.2 y hy with rfl | hy
            · exact ⟨hwx.1, hwx.2⟩
            · exact q3 y hy, q4⟩, fun h => absurd rfl h⟩, rfl, by simp only; omega⟩)
      all_goals
        unfold lawStep at s1
        rw [if_pos (by rw [hq]; decide), hq] at s1
        rw [hq]
        (refine run ?_; repeat intro b)
        rw [wrap_succ (by omega)]
        exact kn _ (VSf.ren [] [0, 1, 7, 8, 9, 10, 11, 12, 13, 14, 15, 16, 47, 48, 49] [] trivial rfl rfl rfl rfl rfl rfl ⟨⟨k + 1, _, l, p, c, G⟩, ⟨hlt, g2, g3, g4, by simp, fun h => by simp at h, fun _ => hset _ (by simp) s1⟩, rfl, by simp only; omega⟩)
    · have hge : k = C.length := by omega
      (refine run ?_; repeat intro b)
      refine s_if false (by rw [← decide_eq_false (p := ((k : Nat) : Int) < ((C.length : Nat) : Int)) (by omega)]; rfl) (fun h => by cases h) (fun _ => ?_)
      (refine run ?_; repeat intro b)
      exact ke _ (VS.ren (nx' := 9) [] [0, 1, 7, 8, 9, 10, 11, 12, 13, 14, 15, 16] [] trivial rfl rfl rfl rfl rfl rfl ⟨_, hfin hge, rfl⟩)
  case hJ =>
    rintro ⟨k, e, l, p, c, G⟩ ⟨g2, g3, g4, g5, g6, g7, g8⟩
    dsimp only at g2 g3 g4 g5 g6 g7 g8 ⊢
    have hga := frow_sub (h14.trans g2) hfa
    have hgb := frow_sub (h14.trans g2) hfb
    have hk1 := frow_sub (hF2.trans (hF3.trans (hF4.trans g2))) hf1
    have hk2 := frow_sub (hF3.trans (hF4.trans g2)) hf2
    rcases g5 with rfl | rfl | rfl | rfl
    · have ex := g7 rfl
      have hk3 := frow_sub (hF4.trans g2) hf3
      rw [ex] at hk3
      rw [g6, ex]
      (refine run ?_; repeat intro b)
      refine s_plain _ rfl rfl rfl bd26 rfl (eq_entry_self l rfl hk3 g3 (by omega)) ?_
      (refine run ?_; repeat intro b)
      rcases bookFault_cases A with h0 | h0 | h0
      · have eC : chkE A B = bookFault B := by unfold chkE; rw [if_neg (by rw [h0]; decide)]
        rw [h0]
        (refine run ?_; repeat intro b)
        refine s_plain _ rfl rfl rfl bd30 rfl (bookfault_ok B hlb hwb hgb) ?_
        rcases bookFault_cases B with hb0 | hb0 | hb0
        · rw [hb0] at eC
          obtain ⟨d1, d2, d3⟩ := chg_good eC
          have hA24 := (bookFault_zero h0).1
          have hB24 := (bookFault_zero hb0).1
          have hsl := seenN_len A B 16 []
          have hdl := differN_len A B
          rw [d1] at hk1
          rw [d2] at hk2
          rw [hb0, eC, d1, d2, d3]
          (refine run ?_; repeat intro b)
          refine s_callF rfl rfl rfl bd34 rfl (reflooked_ok A B hA24 hB24 hwa hwb hga hgb) ?_
          rintro _ G1 hG1 ⟨p6, c6, rfl, hf6⟩
          (refine run ?_; repeat intro b)
          refine s_callF rfl rfl rfl bd36 rfl (refdiffer_ok A B hA24 hB24 hwa hwb (frow_sub hG1 hga) (frow_sub hG1 hgb)) ?_
          rintro _ G2 hG2 ⟨p7, c7, rfl, hf7⟩
          (refine run ?_; repeat intro b)
          refine s_plain _ rfl rfl rfl bd35 rfl (eq_str_self (differN A B) (frow_sub (hG1.trans hG2) hk1) hf7 (by omega)) ?_
          (refine run ?_; repeat intro b)
          refine s_plain _ rfl rfl rfl bd35 rfl (eq_str_self (seenN A B 16 []) (frow_sub (hG1.trans hG2) hk2) (frow_sub hG2 hf6) (by omega)) ?_
          (refine run ?_; repeat intro b)
          rw [beq_self_eq_true]
          rfl
        all_goals
          rw [hb0] at eC
          obtain ⟨d1, d2, d3⟩ := chg_bad (by rw [eC]; decide)
          rw [hb0, eC, d1, d2, d3]
          (refine run ?_; repeat intro b)
          rw [wrap_i64 (by simp) (by simp)]
          rfl
      all_goals
        have eC : chkE A B = bookFault A := by unfold chkE; rw [if_pos (by rw [h0]; decide)]
        rw [h0] at eC
        obtain ⟨d1, d2, d3⟩ := chg_bad (by rw [eC]; decide)
        rw [h0, eC, d1, d2, d3]
        (refine run ?_; repeat intro b)
        rw [wrap_i64 (by simp) (by simp)]
        rfl
    all_goals
      have ex := g8 (by decide)
      rw [g6, ex]
      (refine run ?_; repeat intro b)
      rcases bookFault_cases A with h0 | h0 | h0
      · have eC : chkE A B = bookFault B := by unfold chkE; rw [if_neg (by rw [h0]; decide)]
        rw [h0]
        (refine run ?_; repeat intro b)
        refine s_plain _ rfl rfl rfl bd30 rfl (bookfault_ok B hlb hwb hgb) ?_
        rcases bookFault_cases B with hb0 | hb0 | hb0
        · rw [hb0] at eC
          obtain ⟨d1, d2, d3⟩ := chg_good eC
          have hA24 := (bookFault_zero h0).1
          have hB24 := (bookFault_zero hb0).1
          have hsl := seenN_len A B 16 []
          have hdl := differN_len A B
          rw [d1] at hk1
          rw [d2] at hk2
          rw [hb0, eC, d1, d2, d3]
          (refine run ?_; repeat intro b)
          refine s_callF rfl rfl rfl bd34 rfl (reflooked_ok A B hA24 hB24 hwa hwb hga hgb) ?_
          rintro _ G1 hG1 ⟨p6, c6, rfl, hf6⟩
          (refine run ?_; repeat intro b)
          refine s_callF rfl rfl rfl bd36 rfl (refdiffer_ok A B hA24 hB24 hwa hwb (frow_sub hG1 hga) (frow_sub hG1 hgb)) ?_
          rintro _ G2 hG2 ⟨p7, c7, rfl, hf7⟩
          (refine run ?_; repeat intro b)
          refine s_plain _ rfl rfl rfl bd35 rfl (eq_str_self (differN A B) (frow_sub (hG1.trans hG2) hk1) hf7 (by omega)) ?_
          (refine run ?_; repeat intro b)
          refine s_plain _ rfl rfl rfl bd35 rfl (eq_str_self (seenN A B 16 []) (frow_sub (hG1.trans hG2) hk2) (frow_sub hG2 hf6) (by omega)) ?_
          (refine run ?_; repeat intro b)
          rw [beq_self_eq_true]
          rfl
        all_goals
          rw [hb0] at eC
          obtain ⟨d1, d2, d3⟩ := chg_bad (by rw [eC]; decide)
          rw [hb0, eC, d1, d2, d3]
          (refine run ?_; repeat intro b)
          rw [wrap_i64 (by simp) (by simp)]
          rfl
      all_goals
        have eC : chkE A B = bookFault A := by unfold chkE; rw [if_pos (by rw [h0]; decide)]
        rw [h0] at eC
        obtain ⟨d1, d2, d3⟩ := chg_bad (by rw [eC]; decide)
        rw [h0, eC, d1, d2, d3]
        (refine run ?_; repeat intro b)
        rw [wrap_i64 (by simp) (by simp)]
        rfl
end Go.Proofs.YthkkgphjjmhglaaGreatDoor
