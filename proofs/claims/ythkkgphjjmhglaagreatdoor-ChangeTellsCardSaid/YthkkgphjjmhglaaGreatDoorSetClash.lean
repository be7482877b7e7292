/-
Package tree: Set: the walk.
-/
import Derived.Test.YthkkgphjjmhglaaGreatDoorInsert
import Derived.Test.YthkkgphjjmhglaaGreatDoorSetFwK
import Derived.Test.YthkkgphjjmhglaaGreatDoorSetProofSay
/-!
Package tree: Set: the walk.
-/
namespace Go.Proofs.YthkkgphjjmhglaaGreatDoor
set_option linter.unusedVariables false
set_option linter.unusedSimpArgs false
open Go.TR
def setE (l : List Entry) (n v : List UInt8) : Int := if findE l n ≠ 0 then findE l n else if askFault n v ≠ 0 then askFault n v else if hasN l n = false ∧ l.length = 24 then 7 else 0
def setO (l : List Entry) (n v : List UInt8) : List Entry := if setE l n v = 0 then setL l n v else []
theorem setE_bad {l : List Entry} {n v : List UInt8} (h : setE l n v ≠ 0) : setO l n v = [] := by unfold setO; rw [if_neg h]
theorem store_seg {α : Type} (A B z y : List α) {n k : Nat} (h : A.length = n) (hk : y.length = k) : (A ++ (y ++ B)).take n ++ z ++ (A ++ (y ++ B)).drop (n + k) = A ++ (z ++ B) := by
  rw [seg1 _ _ _ h, List.drop_left' hk]
theorem set_ins {l : List Entry} {n : List UInt8} (v : List UInt8) {i : Nat} (hi : i ≤ l.length) (hlb : lbN l n = i) (hh : hasN l n = false) : (enE (insL l i)).take (i * 2) ++ [.v (S n), .v (S v)] ++ (enE (insL l i)).drop (i * 2 + 2) = enE (setL l n v) := by
  have hA : (enE (l.take i)).length = i * 2 := by rw [enE_len, List.length_take]; omega
  rw [insL_enE, store_seg (k := 2) (enE (l.take i)) (enE (l.drop i)) _ zE hA rfl]
  unfold setL nextI
  rw [hlb, hh, enE_app]
  rfl
theorem set_put {l : List Entry} (hb : Book l) {n : List UInt8} (v : List UInt8) {i : Nat} (hi : i < l.length) (hlb : lbN l n = i) (hh : hasN l n = true) : (enE l).take (i * 2) ++ [.v (S n), .v (S v)] ++ (enE l).drop (i * 2 + 2) = enE (setL l n v) := by
  have e1 : i * 2 + 2 = (i + 1) * 2 := by omega
  unfold setL nextI
  rw [hlb, hh, if_pos rfl, enE_app, enE_take, e1, ← enE_drop l (i + 1) hi, List.append_assoc]
  rfl
attribute [local irreducible] ahead orderN pathN wayN goodName bookFault markN lbN hasN findE askFault
attribute [local irreducible] vc vcOps seqK blockK loopK retK retG retI loopV Plain CallOK CallIn bodied VS vcAny dropG backK brK loopPK IntKind.wrap
set_option maxRecDepth 100000
/-- slices.Clone: a row of the caller's own. -/
theorem clone_entry (cs : List Value) (n : Nat) {p : Option Addr} {c : Nat} {F : Hp} (hl : cs.length = n * 2) (hf : Frow F p cs) (h1 : ∀ x ∈ cs, Go.TR.one (.v x) = true) (hb : n * 32 ≤ 140737488355328) : CallOK Tryz.prog F 31 [.slice p n c] (fun x _ new => RowBack 70 2 cs n x new) := by
  refine call_vc (N := 8) (rv := [.tmp 2]) tbok mixed Tryz.func31 rfl rfl rfl rfl rfl ?_
  (refine run ?_; repeat intro b)
  refine s_snil (b := p.isNone) tbok rfl rfl rfl ?_
  cases p with
  | none =>
    have hn : n = 0 := by
      rcases Nat.eq_zero_or_pos n with h | h
      · exact h
      · have := frow_some hf (j := 0) (by rw [hl]; omega)
        cases this
    subst hn
    (refine run ?_; repeat intro b)
    refine s_retG (VS.id ⟨_, rfl, .inl ⟨rfl, rfl, none, rfl⟩⟩)
  | some a =>
    (refine run ?_; repeat intro b)
    refine s_appR rfl rfl rfl rfl rfl rfl rfl rfl (src_frz hl hf) (one_v _ h1) (fun h => by cases h) (Nat.le_refl 0) rfl (Nat.zero_le _) (by show (0 + n) * 32 ≤ _; omega) (fun hn => ?_) (fun hn b2 c2 hc2 => ?_)
    · subst hn
      (refine run ?_; repeat intro b)
      refine s_retG ?_
      refine VS.freeze 0 [2] rfl (cs := []) rfl rfl rfl fun F' hs1 hf1 => VS.id ⟨_, rfl, .inl ⟨rfl, rfl, _, rfl⟩⟩
    · (refine run ?_; repeat intro b)
      simp only [Nat.zero_add] at hc2 ⊢
      refine s_retGf (VSf.ren (nx' := 1) [(1, 0)] [2] [(0, ⟨some b2, cs.map EV.v, 70, c2 * 2⟩)] ⟨rfl, ⟨_, rfl, rfl, rfl, rfl, .inl ⟨rfl, fun e he => all_v _ e he⟩⟩, trivial⟩ rfl rfl rfl rfl rfl rfl ⟨_, rfl, .inr ⟨hn, b2, c2, hc2, rfl, rfl⟩⟩)
set_option maxHeartbeats 4000000 in
theorem insert0_in {p : Option Addr} {bv : Nat} {F : Hp} :
    CallIn Tryz.prog F [(0, ⟨some bv, zE, 70, 2⟩)] 1 116 [.v (.slice p 0 0), .v (i64 ((0 : Nat) : Nat)), .row 0 0 1 1] (fun e F' rs' nx' => ∃ b' c', e = .row 9 0 1 c' ∧ F' = F ∧ nx' = 10 ∧ 1 ≤ c' ∧ rs' = [(9, ⟨some b', zE, 70, c' * 2⟩)]) := by
  refine callin_vc (N := 95) (rv := [.tmp 6]) tbok mixed Tryz.func116 rfl rfl rfl rfl rfl ?_
  (refine run ?_; repeat intro b)
  refine s_appV [] rfl rfl rfl rfl rfl rfl rfl (frow_nil _ _) (src_row rfl rfl) (one_zE _) (by decide) (fun h => by cases h) (fun _ b2 c2 hc2 => ?_)
  refine s_shift (VS.ren (nx' := 10) [(1, 9)] [25] [(9, ⟨some b2, zE, 70, c2 * 2⟩)] ⟨rfl, ⟨_, rfl, rfl, rfl, rfl, .inl ⟨rfl, fun e he => all_v [_, _] e he⟩⟩, trivial⟩ rfl rfl rfl rfl rfl rfl ?_)
  (refine run ?_; repeat intro b)
  exact ⟨b2, c2, rfl, rfl, rfl, by omega, rfl⟩
set_option maxHeartbeats 4000000 in
theorem treeset_ok (l : List Entry) (n v : List UInt8) (hl : l.length ≤ 4611686018427387904) (hw : ∀ x ∈ l, x.wf) (hn : n.length ≤ 4611686018427387904) {p : Option Addr} {c : Nat} {F : Hp} (hf : Frow F p (l.flatMap Entry.row)) : CallF Tryz.prog F 66 [.slice p l.length c, S n, S v] (fun x F' => ∃ p' c', x = pair (.slice p' (setO l n v).length c') (i64 (setE l n v)) ∧ Frow F' p' ((setO l n v).flatMap Entry.row)) := by
  refine call_vc (N := 52) (rv := [.tmp 6, .tmp 7]) tbok mixed Tryz.func66 rfl rfl rfl rfl rfl ?_
  (refine run ?_; repeat intro b)
  refine s_plain _ rfl rfl rfl bd114 rfl (treefind_ok l n hl hw hn hf) ?_
  by_cases h0 : findE l n = 0
  · obtain ⟨h1, h2⟩ := findE_zero h0
    obtain ⟨h24, hgood, _⟩ := bookFault_zero h1
    have hb := book_of h1
    have e1 : findN l n = lbN l n := by unfold findN; rw [if_pos h0]
    have e2 : findB l n = hasN l n := by unfold findB; rw [h0]; rfl
    have hlb := lb_le l n
    rw [h0, e1, e2]
    (refine run ?_; repeat intro b)
    refine s_plain _ rfl rfl rfl bd115 rfl (treeright_ok n v hn F) ?_
    (refine run ?_; repeat intro b)
    refine s_if (decide (askFault n v ≠ 0)) ?_ (fun h => ?_) (fun h => ?_)
    · refine congrArg (fun b => some (EV.v (.bool b))) ?_
      rw [Bool.eq_iff_iff]; simp
    · have h := of_decide_eq_true h
      have e : setE l n v = askFault n v := by unfold setE; rw [if_neg (by simpa using h0), if_pos h]
      rw [setE_bad (by rw [e]; exact h), e]
      (refine run ?_; repeat intro b)
      exact s_retG (VS.id ⟨_, rfl, rfl, none, 0, rfl, frow_nil _ _⟩)
    · have ha : askFault n v = 0 := by simpa using h
      have eS : setE l n v = if hasN l n = false ∧ l.length = 24 then 7 else 0 := by unfold setE; rw [if_neg (by simpa using h0), if_neg (by simpa using ha)]
      have hfl := flat_len entry_row l
      cases hh : hasN l n with
      | true =>
        have e : setE l n v = 0 := by rw [eS, hh]; rfl
        have eO : setO l n v = setL l n v := by unfold setO; rw [if_pos e]
        obtain ⟨hlt, _⟩ := (has_iff hb n).1 hh
        have hput := fun hi h => set_put hb v (i := lbN l n) hi h hh
        have hsl : (setL l n v).length = l.length := by rw [set_len hb, hh]; rfl
        rw [e, eO, hsl]
        generalize lbN l n = i at *
        have hput := hput hlt rfl
        (refine run ?_; repeat intro b)
        refine s_callR (R := fun _ cs => cs = l.flatMap Entry.row) (fun x F' new h => ⟨_, h, rfl⟩) rfl rfl rfl bd31 rfl (clone_entry (l.flatMap Entry.row) l.length hfl hf (entry_one _) (by omega)) (fun hk0 _ _ _ _ _ => by omega) (fun hk1 F1 b1 c1 cs hF1 hc1 hcs => ?_)
        subst hcs
        (refine run ?_; repeat intro b)
        refine s_pureO rfl rfl rfl ⟨by omega, by omega, _, _, rfl, rfl⟩ ?_
        refine s_storeX (enE (setL l n v)) rfl rfl rfl rfl rfl rfl (by rw [Int.toNat_natCast]; show 0 + i * 2 + 2 ≤ _; rw [enE_len l]; omega) (by rw [Int.toNat_natCast, Nat.zero_add]; exact hput) rfl ?_
        (refine run ?_; repeat intro b)
        refine s_retG ?_
        refine VS.freeze 0 [6, 7] rfl (allV_map_v _) rfl rfl fun F' hs1 hf1 => VS.id ⟨_, rfl, rfl, _, _, rfl, hf1⟩
      | false =>
        have hins := fun hi h => set_ins (l := l) (n := n) v (i := lbN l n) hi h hh
        have hsl : (setL l n v).length = l.length + 1 := by rw [set_len hb, hh]; rfl
        have hins := hins hlb rfl
        generalize lbN l n = i at *
        (refine run ?_; repeat intro b)
        refine s_if (decide (l.length = 24)) ?_ (fun h => ?_) (fun h => ?_)
        · refine congrArg (fun b => some (EV.v (.bool b))) ?_
          rw [Bool.eq_iff_iff, beq_iff_eq, decide_eq_true_eq]
          omega
        · have e : setE l n v = 7 := by rw [eS, hh, if_pos ⟨rfl, of_decide_eq_true h⟩]
          rw [setE_bad (by rw [e]; decide), e]
          (refine run ?_; repeat intro b)
          exact s_retG (VS.id ⟨_, rfl, rfl, none, 0, rfl, frow_nil _ _⟩)
        · have h := of_decide_eq_false h
          have e : setE l n v = 0 := by rw [eS, if_neg (fun h2 => h h2.2)]
          have eO : setO l n v = setL l n v := by unfold setO; rw [if_pos e]
          rw [e, eO, hsl]
          by_cases hl0 : l.length = 0
          · obtain rfl := List.eq_nil_of_length_eq_zero hl0
            obtain rfl : i = 0 := by simpa using hlb
            (refine run ?_; repeat intro b)
            refine s_callR (R := fun _ cs => cs = ([] : List Entry).flatMap Entry.row) (fun x F' new h => ⟨_, h, rfl⟩) rfl rfl rfl bd31 rfl (clone_entry (([] : List Entry).flatMap Entry.row) 0 hfl hf (entry_one _) (by omega)) (fun hk0 F1 p1 cs hF1 hcs => ?_) (fun hk1 _ _ _ _ _ _ _ => absurd hk1 (by decide))
            (refine run ?_; repeat intro b)
            refine s_in rfl rfl rfl bd116 rfl insert0_in ?_
            rintro _ _ _ _ _ _ ⟨b2, c2, rfl, rfl, rfl, hc2, rfl⟩
            (refine run ?_; repeat intro b)
            refine s_pureO rfl rfl rfl ⟨by omega, by omega, _, _, rfl, rfl⟩ ?_
            refine s_storeX (enE (setL [] n v)) rfl rfl rfl rfl rfl rfl (by rw [Int.toNat_natCast]; show 0 + 0 * 2 + 2 ≤ _; rw [show zE.length = 2 from rfl]; omega) (by rw [Int.toNat_natCast, Nat.zero_add]; exact hins) rfl ?_
            (refine run ?_; repeat intro b)
            refine s_retG ?_
            refine VS.freeze 9 [6, 7] rfl (allV_map_v _) rfl rfl fun F' hs1 hf1 => VS.id ⟨_, rfl, rfl, _, _, rfl, hf1⟩
          · (refine run ?_; repeat intro b)
            refine s_callR (R := fun _ cs => cs = l.flatMap Entry.row) (fun x F' new h => ⟨_, h, rfl⟩) rfl rfl rfl bd31 rfl (clone_entry (l.flatMap Entry.row) l.length hfl hf (entry_one _) (by omega)) (fun hk0 _ _ _ _ _ => by omega) (fun hk1 F1 b1 c1 cs hF1 hc1 hcs => ?_)
            subst hcs
            (refine run ?_; repeat intro b)
            refine s_in rfl rfl rfl bd116 rfl (insert_in l i hlb hk1 (by omega) hc1) ?_
            rintro _ _ _ _ _ _ ⟨b2, c2, rfl, rfl, rfl, hc2, rfl⟩
            (refine run ?_; repeat intro b)
            refine s_pureO rfl rfl rfl ⟨by omega, by omega, _, _, rfl, rfl⟩ ?_
            refine s_storeX (enE (setL l n v)) rfl rfl rfl rfl rfl rfl (by rw [Int.toNat_natCast]; show 0 + i * 2 + 2 ≤ _; rw [enE_len, insL_len hlb]; omega) (by rw [Int.toNat_natCast, Nat.zero_add]; exact hins) rfl ?_
            (refine run ?_; repeat intro b)
            refine s_retG ?_
            refine VS.freeze 9 [6, 7] rfl (allV_map_v _) rfl rfl fun F' hs1 hf1 => VS.id ⟨_, rfl, rfl, _, _, rfl, hf1⟩
  · have e : setE l n v = findE l n := by unfold setE; rw [if_pos h0]
    rw [setE_bad (by rw [e]; exact h0), e]
    have e2 : findN l n = 0 := by unfold findN; rw [if_neg h0]
    have e3 : findB l n = false := by unfold findB; rw [decide_eq_false h0]; rfl
    rw [e2, e3]
    (refine run ?_; repeat intro b)
    refine s_if false (congrArg (fun b => some (EV.v (.bool b))) (by simpa using h0)) (fun h => by cases h) (fun _ => ?_)
    (refine run ?_; repeat intro b)
    refine s_if true (congrArg (fun b => some (EV.v (.bool b))) (by simpa using h0)) (fun _ => ?_) (fun h => by cases h)
    (refine run ?_; repeat intro b)
    exact s_retG (VS.id ⟨_, rfl, rfl, none, 0, rfl, frow_nil _ _⟩)
end Go.Proofs.YthkkgphjjmhglaaGreatDoor
/-!
What the reference says of a proof; the mark on top: the walks.
-/
namespace Go.Proofs.YthkkgphjjmhglaaGreatDoor
set_option linter.unusedVariables false
set_option linter.unusedSimpArgs false
open Go.TR
attribute [local irreducible] ahead orderN pathN wayN goodName bookFault markN partsOut two sayF
attribute [local irreducible] vc vcOps seqK blockK loopK retK retG retI loopV Plain CallOK CallIn bodied VS vcAny dropG backK brK loopPK IntKind.wrap
set_option maxRecDepth 100000
end Go.Proofs.YthkkgphjjmhglaaGreatDoor
/-!
Texts that clash: plainly, and the walks.
-/
namespace Go.Proofs.YthkkgphjjmhglaaGreatDoor
set_option linter.unusedVariables false
set_option linter.unusedSimpArgs false
open Go.TR
/-- From a place on downwards. -/
def clashK (a b : List (List UInt8)) : Nat → List UInt8 × List UInt8 × Int
  | 0 => ([], [], 5)
  | k + 1 => if a.getD k [] = b.getD k [] then clashK a b k else if markN (a.getD k []) = markN (b.getD k []) then (a.getD k [], b.getD k [], 0) else ([], [], 5)
def clashT (a b : List (List UInt8)) : List UInt8 × List UInt8 × Int :=
  if a.length = 0 ∨ a.length ≠ b.length then ([], [], 3) else if markN (a.getD (a.length - 1) []) ≠ markN (b.getD (b.length - 1) []) then ([], [], 8) else clashK a b a.length
@[reducible] def clV (x : List UInt8 × List UInt8 × Int) : Value := triple (S x.1) (S x.2.1) (i64 x.2.2)
theorem get_str {F : Hp} {p : Option Addr} {l : List (List UInt8)} (hf : Frow F p (l.map S)) {k : Nat} (h : k < l.length) : Pcell F (padd p k) = some (S (l.getD k [])) := by
  have := frow_get hf (j := k) (by rw [List.length_map]; exact h)
  rw [List.getElem_map] at this
  rw [List.getD_eq_getElem?_getD, List.getElem?_eq_getElem h]
  exact this
attribute [local irreducible] markN clashK pathN goodName sayF prfFault
attribute [local irreducible] vc vcOps seqK blockK loopK retK retG retI loopV Plain CallOK CallIn bodied VS vcAny dropG backK brK loopPK IntKind.wrap
set_option maxRecDepth 100000
def refclE (p q : Prf) : Int := if prfFault p ≠ 0 then prfFault p else if prfFault q ≠ 0 then prfFault q else if p.name ≠ q.name then 3 else 0
def clashP (p q : Prf) : List UInt8 × List UInt8 × Int := if refclE p q ≠ 0 then ([], [], refclE p q) else clashT (sayL p 17) (sayL q 17)
end Go.Proofs.YthkkgphjjmhglaaGreatDoor
