/-
The reference's Looked: the walk.
-/
import Derived.Test.YthkkgphjjmhglaaGreatDoorChangeRef
import Derived.Test.YthkkgphjjmhglaaGreatDoorSetFwZ
namespace Go.Proofs.YthkkgphjjmhglaaGreatDoor
set_option linter.unusedVariables false
set_option linter.unusedSimpArgs false
open Go.TR
/-- Where the walk level by level stands. -/
structure LkS where
  todo : List (List UInt8)
  many : Nat
  out : List (List UInt8)
  cs : List Value
  o : Nat
  bt : Nat
  ct : Nat
  capT : Nat
  bo : Option Nat
  co : Nat
  F : Hp
structure LkS.ok (A B : List Entry) (F0 : Hp) (q : LkS) : Prop where
  sub : F0.sub q.F
  wide : Wide A B q.todo q.many q.out
  tl : (q.cs.drop q.o).take q.todo.length = q.todo.map S
  ol : q.o + q.todo.length ≤ q.cs.length
  oc : q.o + q.ct ≤ q.capT
  ct : q.todo.length ≤ q.ct
  bo : q.bo = none → q.out.length = 0 ∧ q.co = 0
  co : q.out.length ≤ q.co
theorem seg_head {cs : List Value} {o : Nat} {p : List UInt8} {rest : List (List UInt8)} (h : (cs.drop o).take (rest.length + 1) = S p :: rest.map S) : cs[o]? = some (S p) ∧ (cs.drop (o + 1)).take rest.length = rest.map S := by
  have e1 : cs[o]? = (cs.drop o)[0]? := by rw [List.getElem?_drop, Nat.add_zero]
  have e2 : cs.drop (o + 1) = (cs.drop o).drop 1 := by rw [List.drop_drop]
  rw [e1, e2]
  cases hd : cs.drop o with
  | nil => rw [hd] at h; simp at h
  | cons x t =>
    rw [hd, List.take_succ_cons] at h
    obtain ⟨rfl, h2⟩ := List.cons.inj h
    exact ⟨rfl, by simpa using h2⟩
theorem seg_next {cs : List Value} {o ct capT : Nat} {p : List UInt8} {rest : List (List UInt8)} (h : (cs.drop o).take (rest.length + 1) = S p :: rest.map S) (h1 : o + (rest.length + 1) ≤ cs.length) (h2 : o + ct ≤ capT) (h3 : rest.length + 1 ≤ ct) :
    (cs.drop (slOff o 1 ct 1)).take rest.length = rest.map S ∧ slOff o 1 ct 1 + rest.length ≤ cs.length ∧ slOff o 1 ct 1 + (ct - 1) ≤ capT := by
  unfold slOff
  by_cases hc : ct = 1
  · have hr : rest = [] := List.eq_nil_of_length_eq_zero (by omega)
    subst hr
    rw [if_pos hc]
    exact ⟨by simp, by simp only [List.length_nil] at h1 ⊢; omega, by omega⟩
  · rw [if_neg hc]
    exact ⟨by rw [Nat.one_mul]; exact (seg_head h).2, by omega, by omega⟩
/-- Names of one path, of the first so many. -/
def leafL (A B : List Entry) (p : List UInt8) (k : Nat) : List (List UInt8) := ((differN A B).take k).filter fun n => decide (pathN n = p)
theorem leafL_zero (A B : List Entry) (p : List UInt8) : leafL A B p 0 = [] := rfl
theorem leafL_all {A B : List Entry} {p : List UInt8} (h : p.length = 16) : leafL A B p (differN A B).length = differP A B p := by
  unfold leafL
  rw [List.take_length, differP_path h]
theorem leafL_step {A B : List Entry} {p : List UInt8} {k : Nat} (h : k < (differN A B).length) : leafL A B p (k + 1) = if pathN (differN A B)[k] = p then leafL A B p k ++ [(differN A B)[k]] else leafL A B p k := by
  unfold leafL
  rw [List.take_succ_eq_append_getElem h, List.filter_append]
  by_cases hc : pathN (differN A B)[k] = p <;> simp [hc]
theorem leafL_len (A B : List Entry) (p : List UInt8) (k : Nat) : (leafL A B p k).length ≤ k := by
  unfold leafL
  exact Nat.le_trans (List.length_filter_le _ _) (by rw [List.length_take]; omega)
theorem wide_small {A B : List Entry} {todo : List (List UInt8)} {many : Nat} {out : List (List UInt8)} (h : Wide A B todo many out) : many + todo.length ≤ 200000 ∧ out.length ≤ A.length + B.length := by
  obtain ⟨d, L, M, h1, _, _, _, _, _, h2, h3⟩ := h.is
  have hc := cntN_le A B 16 []
  have h17 : (2 : Nat) ^ (16 + 1) = 131072 := by decide
  have hs : ∀ (k : Nat) (l : List (List UInt8)), l.length ≤ sumN A B k l := fun k l => by
    induction l with
    | nil => exact Nat.zero_le _
    | cons p t ih =>
      have := cntN_pos A B k p
      simp only [sumN, List.map_cons, List.sum_cons, List.length_cons] at ih ⊢
      omega
  have s1 := hs (16 - d) L
  have s2 := hs (16 - (d + 1)) M
  have hl : todo.length = L.length + M.length := by rw [h1, List.length_append]
  have ho := congrArg List.length h3
  rw [List.length_append] at ho
  have := seenN_len A B 16 []
  exact ⟨by omega, by omega⟩
attribute [local irreducible] vc vcOps seqK blockK loopK retK retG retI loopV Plain CallOK CallIn bodied VS vcAny dropG backK brK loopPK IntKind.wrap
attribute [local irreducible] leafL slOff bookFault bothN unlikeN pathN goodName standsO differP differN ordN diffL lvlN lvlM begun seenN cntN noneM markN
set_option maxRecDepth 100000
set_option maxHeartbeats 4000000
theorem looked1_ok (l : List Entry) (q : List UInt8) {F : Hp} {p8 : Option Addr} {b : Nat} {es : Array MapEntry} {clock : Nat} (h8 : Pcell F p8 = some (mu noneM)) (hF : F b = some (.map es clock)) (hM : MapIs es clock (lvlM l (begun l))) :
    Plain Tryz.prog F 85 [.map (some b), S q, .pointer p8] (mu (lvlN l q)) := by
  refine plain_vc (N := 17) (rv := [.tmp 5]) tbok mixed Tryz.func85 rfl rfl rfl rfl rfl ?_
  (refine run ?_; repeat intro b)
  refine s_lookup (lvlM l (begun l)) q und_map und_key rfl rfl zero_u64 rfl hF hM ?_
  rw [if_pos rfl]
  cases hb : begun l q with
  | true =>
    rw [lvlM_yes hb]
    (refine run ?_; repeat intro b)
    rfl
  | false =>
    rw [lvlM_no hb, lvlN_none hb]
    (refine run ?_; repeat intro b)
    refine s_load (mu noneM) rfl rfl rfl rfl h8 ?_
    (refine run ?_; repeat intro b)
    rfl
theorem reflooked_ok (A B : List Entry) (hA24 : A.length ≤ 24) (hB24 : B.length ≤ 24) (hwa : ∀ x ∈ A, x.wf) (hwb : ∀ x ∈ B, x.wf) {pa pb : Option Addr} {ca cb : Nat} {F : Hp} (hfa : Frow F pa (A.flatMap Entry.row)) (hfb : Frow F pb (B.flatMap Entry.row)) :
    CallF Tryz.prog F 34 [.slice pa A.length ca, .slice pb B.length cb] (fun x F' => ∃ p' c', x = pair (.slice p' (seenN A B 16 []).length c') (i64 (cntN A B 16 [] : Nat)) ∧ Frow F' p' ((seenN A B 16 []).map S)) := by
  refine CallOK.drop (call_vc (N := 72) (rv := [.tmp 4, .tmp 5]) tbok mixed Tryz.func34 rfl rfl rfl rfl rfl ?_)
  (refine run ?_; repeat intro b)
  refine s_callF rfl rfl rfl bd55 rfl (levels_ok A hA24 hwa hfa) ?_
  rintro _ F1 hF1 ⟨ma, ea, ka, rfl, hma, hMa⟩
  (refine run ?_; repeat intro b)
  refine s_callF rfl rfl rfl bd55 rfl (levels_ok B hB24 hwb (frow_sub hF1 hfb)) ?_
  rintro _ F2 hF2 ⟨mb, eb, kb, rfl, hmb, hMb⟩
  have hma2 : F2 ma = _ := hF2 _ _ hma
  (refine run ?_; repeat intro b)
  refine s_plain _ rfl rfl rfl bd22 rfl (refmark_none F2) ?_
  (refine runR ?_; repeat intro b)
  revert b; intro b8
  refine s_vsG rfl (VS.freeze 0 [0, 1, 6, 7, 8] rfl rfl rfl rfl fun F3 hs3 hf3 => VS.id ?_)
  have hma3 : F3 ma = _ := hs3 _ _ hma2
  have hmb3 : F3 mb = _ := hs3 _ _ hmb
  have h83 := pcell_1 hf3
  (refine run ?_; repeat intro b)
  refine s_loopP (fun q : LkS => q.ok A B F3) (fun q => ⟨[(10, .row 4 0 q.out.length q.co), (11, .row 5 q.o q.todo.length q.ct), (0, .v (.slice pa A.length ca)), (1, .v (.slice pb B.length cb)), (6, .v (.map (some ma))), (7, .v (.map (some mb))), (9, .v (.func (.func 85) #[] #[.pointer (some ⟨b8, 0, none⟩)])), (12, .v (i64 (q.many : Nat)))], q.F,
      [(5, ⟨some q.bt, q.cs.map EV.v, 9, q.capT⟩), (4, ⟨q.bo, (q.out.map S).map EV.v, 9, q.co * 1⟩)], 6⟩) (fun q => cntN A B 16 [] - q.many) ⟨[[]], 0, [], [S []], 0, b, 1, 1, none, 0, F3⟩ ⟨Hp.sub.refl _, wide_start A B, rfl, Nat.le_refl _, Nat.le_refl _, Nat.le_refl _, fun _ => ⟨rfl, rfl⟩, Nat.le_refl _⟩
    (VS.trans (VS.nilrow 10 9 [11, 0, 1, 6, 7, 9, 12] rfl rfl (VS.id (VS.ren (nx' := 6) [(1, 5), (2, 4)] [10, 11, 0, 1, 6, 7, 9, 12] [(5, ⟨some b, [S []].map EV.v, 9, 1⟩), (4, ⟨none, ([].map S).map EV.v, 9, 0 * 1⟩)] ⟨rfl, ⟨_, rfl, rfl, rfl, rfl, .inr rfl⟩, rfl, ⟨_, rfl, rfl, rfl, rfl, .inr rfl⟩, trivial⟩ rfl rfl rfl rfl rfl rfl rfl)))) ?_
  rintro ⟨todo, many, out, cs, o, bt, ct, capT, bo, co, G⟩ ⟨q0, q1, q2, q3, q4, q5, q6, q7⟩
  dsimp only at q0 q1 q2 q3 q4 q5 q6 q7 ⊢
  obtain ⟨w1, w2⟩ := wide_small q1
  cases todo with
  | nil =>
    obtain ⟨e1, e2⟩ := wide_end q1
    subst e1 e2
    (refine run ?_; repeat intro b)
    have hord := seen_ord A B 16 []
    refine s_shift (VS.dropR [5] rfl (VS.shut (fun pn => [(69, .v (.slice pn (seenN A B 16 []).length co)), (12, .v (i64 (cntN A B 16 [] : Nat)))]) 4 [69, 12] rfl (allV_map_v _) (fun _ => rfl) rfl (fun _ => rfl) rfl fun G2 pn hs2 hf2 => ?_))
    have ho := ordered_ok (seenN A B 16 []) (c := co) (by omega) (fun s hs => by
      have := (seen_pre A B 16 [] s hs).2
      unfold differN at this
      exact both_big hwa hwb (List.mem_filter.1 this).1) hf2
    rw [hord] at ho
    refine s_callF rfl rfl rfl bd84 rfl ho ?_
    rintro _ G3 hG3 ⟨p3, c3, rfl, hf3'⟩
    (refine run ?_; repeat intro b)
    exact s_retG (VS.id ⟨_, rfl, p3, c3, rfl, hf3'⟩)
  | cons p rest =>
    obtain ⟨w3, w4, w5, w6, w7, w8⟩ := wide_step q1
    have hlc : (p :: rest).length = rest.length + 1 := rfl
    rw [hlc] at q3 q5 w1
    obtain ⟨g1, _⟩ := seg_head q2
    obtain ⟨g3, g4, g5⟩ := seg_next q2 q3 q4 q5
    have hget : (cs.map EV.v)[o]? = some (.v (S p)) := by rw [List.getElem?_map, g1]; rfl
    (refine run ?_; repeat intro b)
    refine s_if true ?_ (fun _ => ?_) (fun h => by cases h)
    · refine congrArg (fun b => some (EV.v (.bool b))) ?_
      simp
    (refine run ?_; repeat intro b)
    refine s_pureO rfl rfl rfl ⟨by omega, by simp only [List.length_cons]; omega, _, _, rfl, rfl⟩ ?_
    refine s_locX (S p) rfl rfl rfl rfl rfl (by exact hget) ?_
    (refine run ?_; repeat intro b)
    refine s_pureO rfl rfl rfl ⟨by omega, by omega, by omega⟩ ?_
    (refine run ?_; repeat intro b)
    rw [wrap_succ (by omega)]
    have eA := looked1_ok A p (F := G) (p8 := some ⟨b8, 0, none⟩) (pcell_sub q0 h83) (q0 _ _ hma3) hMa
    have eB := looked1_ok B p (F := G) (p8 := some ⟨b8, 0, none⟩) (pcell_sub q0 h83) (q0 _ _ hmb3) hMb
    refine s_plain _ rfl rfl rfl bd85 rfl eA ?_
    (refine run ?_; repeat intro b)
    refine s_plain _ rfl rfl rfl bd85 rfl eB ?_
    (refine run ?_; repeat intro b)
    refine s_if (decide (lvlN A p = lvlN B p)) ?_ (fun h => ?_) (fun h => ?_)
    · refine congrArg (fun b => some (EV.v (.bool b))) ?_
      rw [Bool.eq_iff_iff]; simp; omega
    · have h := of_decide_eq_true h
      (refine run ?_; repeat intro b)
      exact s_loopPq ⟨rest, many + 1, out, cs, slOff o 1 ct 1, bt, ct - 1, capT, bo, co, G⟩ 4 [(5, 5), (4, 4)] [10, 11, 0, 1, 6, 7, 9, 12] [(5, ⟨some bt, cs.map EV.v, 9, capT⟩), (4, ⟨bo, (out.map S).map EV.v, 9, co * 1⟩)]
        ⟨q0, w6 h, g3, g4, g5, by simp only; omega, q6, q7⟩ (by simp only; omega) (by simp)
        ⟨rfl, ⟨_, rfl, rfl, rfl, rfl, .inl ⟨rfl, fun e he => all_v _ e he⟩⟩, rfl, ⟨_, rfl, rfl, rfl, rfl, .inl ⟨rfl, fun e he => all_v _ e he⟩⟩, trivial⟩ rfl rfl rfl rfl rfl rfl rfl
    have h := of_decide_eq_false h
    (refine run ?_; repeat intro b)
    refine s_if (decide (p.length < 16)) ?_ (fun hp => ?_) (fun hp => ?_)
    · refine congrArg (fun b => some (EV.v (.bool b))) ?_
      rw [bl_S, decide_eq_decide]; omega
    · have hp := of_decide_eq_true hp
      (refine run ?_; repeat intro b)
      refine s_pureO rfl rfl rfl (by show p.length + 1 ≤ 9223372036854775807; omega) ?_
      (refine run ?_; repeat intro b)
      refine s_pureO rfl rfl rfl (by show p.length + 1 ≤ 9223372036854775807; omega) ?_
      (refine run ?_; repeat intro b)
      refine s_appO (m := 2) (news := [.v (S (p ++ [48])), .v (S (p ++ [49]))]) tbok rfl rfl rfl rfl rfl rfl rfl rfl (src_row rfl rfl) (one_v _ (l := [S (p ++ [48]), S (p ++ [49])]) (str_one' [p ++ [48], p ++ [49]])) rfl (by decide) (fun h => by cases h) (by show slOff o 1 ct 1 + (ct - 1) * 1 ≤ capT; omega) (by show slOff o 1 ct 1 + rest.length * 1 ≤ (cs.map EV.v).length; rw [List.length_map]; omega) (by show (rest.length + 2) * 16 ≤ _; omega) rfl (fun b2 o2 c2 cap2 pre hpl hpe hc2 hcap2 => ?_)
      obtain ⟨P, rfl⟩ := allv_list fun e he => all_v _ e (hpe e he)
      rw [List.length_map] at hpl
      subst hpl
      have hseg : ((cs.map EV.v).drop (slOff o 1 ct 1)).take (rest.length * 1) = (rest.map S).map EV.v := by rw [Nat.mul_one, ← List.map_drop, ← List.map_take, g3]
      have hcells : P.map EV.v ++ (((cs.map EV.v).drop (slOff o 1 ct 1)).take (rest.length * 1) ++ [.v (S (p ++ [48])), .v (S (p ++ [49]))]) = (P ++ (rest ++ [p ++ [48], p ++ [49]]).map S).map EV.v := by
        rw [hseg]
        simp
      have hl2 : (rest ++ [p ++ [48], p ++ [49]]).length = rest.length + 2 := by simp
      (refine run ?_; repeat intro b)
      exact s_loopPq ⟨rest ++ [p ++ [48], p ++ [49]], many + 1, out, P ++ (rest ++ [p ++ [48], p ++ [49]]).map S, P.length, b2, c2, cap2, bo, co, G⟩ 4 [(7, 5), (4, 4)] [10, 11, 0, 1, 6, 7, 9, 12] [(5, ⟨some b2, (P ++ (rest ++ [p ++ [48], p ++ [49]]).map S).map EV.v, 9, cap2⟩), (4, ⟨bo, (out.map S).map EV.v, 9, co * 1⟩)]
        ⟨q0, w7 h hp, by simp only [List.drop_left]; rw [List.take_of_length_le (by rw [List.length_map]; exact Nat.le_refl _)], by simp only [List.length_append, List.length_map]; omega, by simp only; rw [Nat.mul_one] at hcap2; exact hcap2, by simp only; rw [hl2]; exact hc2, q6, q7⟩ (by simp only; omega) (by simp)
        ⟨rfl, ⟨_, rfl, rfl, rfl, rfl, .inl ⟨hcells.symm, fun e he => all_v _ e (hcells ▸ he)⟩⟩, rfl, ⟨_, rfl, rfl, rfl, rfl, .inl ⟨rfl, fun e he => all_v _ e he⟩⟩, trivial⟩ rfl rfl rfl rfl rfl rfl (by simp only [hl2]; rfl)
    · have hp16 : p.length = 16 := by have := of_decide_eq_false hp; omega
      have w8 := w8 h hp16
      have hdl := differN_len A B
      (refine run ?_; repeat intro b)
      refine s_callF rfl rfl rfl bd36 rfl (refdiffer_ok A B hA24 hB24 hwa hwb (frow_sub (hF1.trans (hF2.trans (hs3.trans q0))) hfa) (frow_sub (hF1.trans (hF2.trans (hs3.trans q0))) hfb)) ?_
      rintro _ G2 hG2 ⟨p2, c2, rfl, hf2⟩
      (refine run ?_; repeat intro b)
      refine s_loopP (fun q : Nat × Option Nat × Nat => q.1 ≤ (differN A B).length ∧ (q.2.1 = none → (out ++ leafL A B p q.1).length = 0 ∧ q.2.2 = 0) ∧ (out ++ leafL A B p q.1).length ≤ q.2.2)
        (fun q => ⟨[(10, .row 20 0 (out ++ leafL A B p q.1).length q.2.2), (11, .row 5 (slOff o 1 ct 1) rest.length (ct - 1)), (0, .v (.slice pa A.length ca)), (1, .v (.slice pb B.length cb)), (6, .v (.map (some ma))), (7, .v (.map (some mb))), (9, .v (.func (.func 85) #[] #[.pointer (some ⟨b8, 0, none⟩)])), (12, .v (i64 ((many + 1 : Nat) : Nat))), (13, .v (S p)), (54, .v (.slice p2 (differN A B).length c2)), (55, .v (i64 ((differN A B).length : Nat))), (56, .v (i64 (q.1 : Nat)))], G2,
          [(5, ⟨some bt, cs.map EV.v, 9, capT⟩), (20, ⟨q.2.1, ((out ++ leafL A B p q.1).map S).map EV.v, 9, q.2.2 * 1⟩)], 21⟩) (fun q => (differN A B).length - q.1) (0, bo, co) ⟨Nat.zero_le _, by rw [leafL_zero, List.append_nil]; exact q6, by rw [leafL_zero, List.append_nil]; exact q7⟩
        (VS.ren (nx' := 21) [(5, 5), (4, 20)] [10, 11, 0, 1, 6, 7, 9, 12, 13, 54, 55, 56] [(5, ⟨some bt, cs.map EV.v, 9, capT⟩), (20, ⟨bo, (out.map S).map EV.v, 9, co * 1⟩)] ⟨rfl, ⟨_, rfl, rfl, rfl, rfl, .inl ⟨rfl, fun e he => all_v _ e he⟩⟩, rfl, ⟨_, rfl, rfl, rfl, rfl, .inl ⟨rfl, fun e he => all_v _ e he⟩⟩, trivial⟩ rfl rfl rfl rfl rfl rfl (by simp only [leafL_zero, List.append_nil]; rfl)) ?_
      rintro ⟨k, blk2, cap2⟩ ⟨k1, k2, k3⟩
      dsimp only at k1 k2 k3 ⊢
      have hll := leafL_len A B p k
      have hol : (out ++ leafL A B p k).length = out.length + (leafL A B p k).length := List.length_append
      by_cases hlt : k < (differN A B).length
      · have g := frow_get hf2 (j := k) (by rw [List.length_map]; exact hlt)
        rw [List.getElem_map] at g
        have hst := leafL_step (p := p) hlt
        have hbn : (differN A B)[k].length ≤ 4611686018427387904 := by
          have hm : ∀ n ∈ differN A B, n ∈ bothN A B := by
            unfold differN
            exact fun n hn => (List.mem_filter.1 hn).1
          exact both_big hwa hwb (hm _ (List.getElem_mem hlt))
        generalize (differN A B)[k] = n at g hst hbn
        generalize hO : out ++ leafL A B p k = O at *
        (refine run ?_; repeat intro b)
        refine s_if true (by rw [← decide_eq_true (p := ((k : Nat) : Int) < (((differN A B).length : Nat) : Int)) (by omega)]; rfl) (fun _ => ?_) (fun h => by cases h)
        (refine run ?_; repeat intro b)
        refine s_pureO rfl rfl rfl ⟨by omega, by omega, frow_some hf2 (j := k) (by rw [List.length_map]; exact hlt)⟩ ?_
        refine s_load (S n) rfl rfl rfl rfl (by rw [Int.toNat_natCast, Nat.mul_one]; exact g) ?_
        (refine run ?_; repeat intro b)
        refine s_plain _ rfl rfl rfl bd54 rfl (refpath_ok n hbn G2) ?_
        (refine run ?_; repeat intro b)
        refine s_if (decide (pathN n = p)) rfl (fun h3 => ?_) (fun h3 => ?_)
        · rw [if_pos (of_decide_eq_true h3)] at hst
          have hO2 : out ++ leafL A B p (k + 1) = O ++ [n] := by rw [hst, ← List.append_assoc, hO]
          have hL2 : (out ++ leafL A B p (k + 1)).length = O.length + 1 := by rw [hO2, List.length_append]; rfl
          (refine run ?_; repeat intro b)
          refine s_appR rfl rfl rfl rfl rfl rfl rfl rfl (src_row rfl rfl) (one_v _ (l := [S n]) (fun v hv => by rw [List.mem_singleton.1 hv]; rfl)) k2 k3 rfl (by rw [List.length_map, List.length_map]; exact Nat.le_of_eq (Nat.mul_one _)) (by show _ * 16 ≤ _; omega) (fun h => by cases h) (fun _ b5 c5 hc5 => ?_)
          (refine run ?_; repeat intro b)
          have hcells := S_snoc O n O.length rfl
          rw [wrap_succ (by omega)]
          rw [← hL2] at hc5
          exact s_loopPq (k + 1, some b5, c5) 20 [(5, 5), (22, 20)] [10, 11, 0, 1, 6, 7, 9, 12, 13, 54, 55, 56] [(5, ⟨some bt, cs.map EV.v, 9, capT⟩), (20, ⟨some b5, ((out ++ leafL A B p (k + 1)).map S).map EV.v, 9, c5 * 1⟩)]
            ⟨hlt, (fun h => by cases h), hc5⟩ (by simp only; omega) (by simp)
            ⟨rfl, ⟨_, rfl, rfl, rfl, rfl, .inl ⟨rfl, fun e he => all_v _ e he⟩⟩, rfl, ⟨_, rfl, rfl, rfl, rfl, .inl ⟨by rw [hO2]; exact hcells.symm, fun e he => all_v _ e (hcells ▸ he)⟩⟩, trivial⟩ rfl rfl rfl rfl rfl rfl (by rw [hL2])
        · rw [if_neg (of_decide_eq_false h3)] at hst
          (refine run ?_; repeat intro b)
          rw [wrap_succ (by omega)]
          exact s_loopPq (k + 1, blk2, cap2) 20 [(5, 5), (20, 20)] [10, 11, 0, 1, 6, 7, 9, 12, 13, 54, 55, 56] [(5, ⟨some bt, cs.map EV.v, 9, capT⟩), (20, ⟨blk2, ((out ++ leafL A B p (k + 1)).map S).map EV.v, 9, cap2 * 1⟩)]
            ⟨hlt, by rw [hst, hO]; exact k2, by rw [hst, hO]; exact k3⟩ (by simp only; omega) (by simp)
            ⟨rfl, ⟨_, rfl, rfl, rfl, rfl, .inl ⟨rfl, fun e he => all_v _ e he⟩⟩, rfl, ⟨_, rfl, rfl, rfl, rfl, .inl ⟨by rw [hst, hO], fun e he => all_v _ e he⟩⟩, trivial⟩ rfl rfl rfl rfl rfl rfl (by rw [hst, hO])
      · have hge : k = (differN A B).length := by omega
        subst hge
        rw [leafL_all hp16] at k2 k3 ⊢
        (refine run ?_; repeat intro b)
        refine s_if false (by rw [← decide_eq_false (p := (((differN A B).length : Nat) : Int) < (((differN A B).length : Nat) : Int)) (by omega)]; rfl) (fun h => by cases h) (fun _ => ?_)
        (refine run ?_; repeat intro b)
        exact s_loopPq ⟨rest, many + 1, out ++ differP A B p, cs, slOff o 1 ct 1, bt, ct - 1, capT, blk2, cap2, G2⟩ 4 [(5, 5), (20, 4)] [10, 11, 0, 1, 6, 7, 9, 12] [(5, ⟨some bt, cs.map EV.v, 9, capT⟩), (4, ⟨blk2, ((out ++ differP A B p).map S).map EV.v, 9, cap2 * 1⟩)]
          ⟨q0.trans hG2, w8, g3, g4, g5, by simp only; omega, k2, k3⟩ (by simp only; omega) (by simp)
          ⟨rfl, ⟨_, rfl, rfl, rfl, rfl, .inl ⟨rfl, fun e he => all_v _ e he⟩⟩, rfl, ⟨_, rfl, rfl, rfl, rfl, .inl ⟨rfl, fun e he => all_v _ e he⟩⟩, trivial⟩ rfl rfl rfl rfl rfl rfl rfl
end Go.Proofs.YthkkgphjjmhglaaGreatDoor
