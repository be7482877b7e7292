/-
Package roll: what a text and marks make; IsIn; the reference's RollMade.
-/
import Derived.Test.YtaienbnadbadfaaRollIn2
namespace Go.Proofs.Ytaienbnadbadfaa
set_option linter.unusedVariables false
set_option linter.unusedSimpArgs false
open Go.TR
/-- What is made of a mark and marks, the last one being that of the top. -/
def madeF : Nat → Nat → Nat → Nat → List Nat → Nat × Bool
  | 0, _, _, m, _ => (m, false)
  | f + 1, n, i, m, p => if n = 1 then (m, decide (p.length = 0)) else match p.getLast? with
    | none => (0, false)
    | some x => if i < half n then (twoN (madeF f (half n) i m p.dropLast).1 x, (madeF f (half n) i m p.dropLast).2) else (twoN x (madeF f (n - half n) (i - half n) m p.dropLast).1, (madeF f (n - half n) (i - half n) m p.dropLast).2)
/-- The sides of the way, from the top down. -/
def rights : Nat → Nat → Nat → List Bool
  | 0, _, _ => []
  | f + 1, n, i => if n ≤ 1 then [] else if i < half n then true :: rights f (half n) i else false :: rights f (n - half n) (i - half n)
def foldM (m : Nat) (l : List (Nat × Bool)) : Nat := l.foldl (fun m x => if x.2 = true then twoN m x.1 else twoN x.1 m) m
theorem foldM_snoc (m : Nat) (l : List (Nat × Bool)) (x : Nat × Bool) : foldM m (l ++ [x]) = if x.2 = true then twoN (foldM m l) x.1 else twoN x.1 (foldM m l) := by
  unfold foldM
  rw [List.foldl_append, List.foldl_cons, List.foldl_nil]
theorem rights_fuel : ∀ (f g n i : Nat), n ≤ f → n ≤ g → rights f n i = rights g n i
  | 0, 0, _, _, _, _ => rfl
  | 0, g + 1, n, i, h, _ => by simp only [rights]; rw [if_pos (by omega)]
  | f + 1, 0, n, i, _, h => by simp only [rights]; rw [if_pos (by omega)]
  | f + 1, g + 1, n, i, h1, h2 => by
    simp only [rights]
    by_cases h : n ≤ 1
    · rw [if_pos h, if_pos h]
    · have hr := half_range (n := n) (by omega)
      rw [if_neg h, if_neg h, rights_fuel f g _ _ (by omega) (by omega), rights_fuel f g (n - half n) _ (by omega) (by omega)]
theorem rights_len : ∀ (f n i : Nat), (rights f n i).length ≤ f
  | 0, _, _ => Nat.le_refl _
  | f + 1, n, i => by
    simp only [rights]
    split
    · simp
    · split
      · have := rights_len f (half n) i; simp only [List.length_cons]; omega
      · have := rights_len f (n - half n) (i - half n); simp only [List.length_cons]; omega
theorem madeF_rights : ∀ (f n i m : Nat) (p : List Nat), 1 ≤ n → n ≤ f → ((madeF f n i m p).2 = true ↔ p.length = (rights f n i).length) ∧ (p.length = (rights f n i).length → (madeF f n i m p).1 = foldM m (p.zip (rights f n i).reverse))
  | 0, n, i, m, p, h1, h2 => by omega
  | f + 1, n, i, m, p, h1, h2 => by
    simp only [madeF, rights]
    by_cases hn : n = 1
    · rw [if_pos hn, if_pos (by omega)]
      refine ⟨by simp, fun h => ?_⟩
      have : p = [] := List.eq_nil_of_length_eq_zero h
      subst this
      rfl
    · have hr := half_range (n := n) (by omega)
      rw [if_neg hn, if_neg (by omega)]
      rcases List.eq_nil_or_concat p with rfl | ⟨q, x, rfl⟩
      · simp only [List.getLast?_nil]
        refine ⟨?_, fun h => ?_⟩
        · split <;> simp
        · exfalso
          revert h
          split <;> simp
      · rw [List.concat_eq_append, List.getLast?_append]
        simp only [List.getLast?_singleton, Option.some_or, List.dropLast_concat]
        by_cases hi : i < half n
        · obtain ⟨g1, g2⟩ := madeF_rights f (half n) i m q (by omega) (by omega)
          simp only [if_pos hi]
          rw [g1]
          refine ⟨by simp only [List.length_append, List.length_cons, List.length_nil, Nat.add_right_cancel_iff, Nat.zero_add], fun h => ?_⟩
          have h' : q.length = (rights f (half n) i).length := by simpa using h
          rw [g2 h', List.reverse_cons, List.zip_append (by simpa using h')]
          simp only [List.zip_cons_cons, List.zip_nil_left]
          rw [foldM_snoc]
          simp
        · obtain ⟨g1, g2⟩ := madeF_rights f (n - half n) (i - half n) m q (by omega) (by omega)
          simp only [if_neg hi]
          rw [g1]
          refine ⟨by simp only [List.length_append, List.length_cons, List.length_nil, Nat.add_right_cancel_iff, Nat.zero_add], fun h => ?_⟩
          have h' : q.length = (rights f (n - half n) (i - half n)).length := by simpa using h
          rw [g2 h', List.reverse_cons, List.zip_append (by simpa using h')]
          simp only [List.zip_cons_cons, List.zip_nil_left]
          rw [foldM_snoc]
          simp
theorem frow_nus_dropLast {F : Hp} {p : Option Addr} {l : List Nat} (h : Frow F p (l.map nu)) : Frow F p (l.dropLast.map nu) := by
  rw [List.map_dropLast, List.dropLast_eq_take]; exact frow_take h _
theorem madeF_lt : ∀ (f n i m : Nat) (p : List Nat), m < MM → (madeF f n i m p).1 < MM
  | 0, n, i, m, p, hm => hm
  | f + 1, n, i, m, p, hm => by
    simp only [madeF]
    split
    · exact hm
    · split
      · exact (by decide : (0 : Nat) < MM)
      · split
        · exact twoN_lt _ _
        · exact twoN_lt _ _
attribute [local irreducible] vc vcOps seqK blockK loopK retK retG retI loopV Plain CallOK CallIn bodied VS vcAny dropG backK brK loopPK IntKind.wrap
set_option maxRecDepth 100000
set_option maxHeartbeats 1000000 in
theorem made_ok (F : Hp) : ∀ (f n i m : Nat) (l : List Nat) (p : Option Addr) (c : Nat), 1 ≤ n → n ≤ f → n ≤ 40 → i < n → m < MM → (∀ x ∈ l, x < 18446744073709551616) → l.length ≤ 4611686018427387904 → l.length ≤ c → Frow F p (l.map nu) →
    Plain Try.prog F 131 [i64 (n : Nat), i64 (i : Nat), u64 (m : Nat), .slice p l.length c] (pair (u64 ((madeF f n i m l).1 : Nat)) (.bool (madeF f n i m l).2))
  | 0, n, i, m, l, p, c, h1, h2, _, _, _, _, _, _, _ => by omega
  | f + 1, n, i, m, l, p, c, h1, h2, h40, hi, hm, hx, hl, hc, hf => by
    refine plain_vc (N := 69) (rv := [.tmp 8, .tmp 9]) tbok mixed Try.func131 rfl rfl rfl rfl rfl ?_
    (refine run ?_; repeat intro b)
    refine s_if (decide (n = 1)) ?_ (fun h => ?_) (fun h => ?_)
    · refine congrArg (fun b => some (EV.v (.bool b))) ?_
      rw [Bool.eq_iff_iff]
      simp only [beq_iff_eq, decide_eq_true_eq]
      omega
    · have h3 : n = 1 := of_decide_eq_true h
      have e : madeF (f + 1) n i m l = (m, decide (l.length = 0)) := by simp only [madeF, if_pos h3]
      have e2 : (((l.length : Nat) : Int) == 0) = decide (l.length = 0) := by rw [Bool.eq_iff_iff]; simp only [beq_iff_eq, decide_eq_true_eq]; omega
      (refine run ?_; repeat intro b)
      rw [e, e2]
      rfl
    · have h3 : ¬ n = 1 := of_decide_eq_false h
      have hr := half_range (n := n) (by omega)
      (refine run ?_; repeat intro b)
      refine s_if (decide (l.length = 0)) ?_ (fun h => ?_) (fun h => ?_)
      · refine congrArg (fun b => some (EV.v (.bool b))) ?_
        rw [Bool.eq_iff_iff]
        simp only [beq_iff_eq, decide_eq_true_eq]
        omega
      · have h4 : l = [] := List.eq_nil_of_length_eq_zero (of_decide_eq_true h)
        subst h4
        have e : madeF (f + 1) n i m [] = (0, false) := by simp only [madeF, if_neg h3, List.getLast?_nil]
        (refine run ?_; repeat intro b)
        rw [e]
        rfl
      · have h4 : ¬ l.length = 0 := of_decide_eq_false h
        obtain ⟨x, hlast⟩ : ∃ x, l.getLast? = some x := by
          cases hg : l.getLast? with
          | none => rw [List.getLast?_eq_none_iff] at hg; subst hg; simp at h4
          | some x => exact ⟨x, rfl⟩
        have hget : l[l.length - 1]? = some x := by rw [← List.getLast?_eq_getElem?]; exact hlast
        have hxm : x < 18446744073709551616 := hx x (List.mem_of_getElem? hget)
        have ew : IntKind.i64.wrap (((l.length : Nat) : Int) - 1) = ((l.length - 1 : Nat) : Int) := by rw [wrap_i64 (by omega) (by omega)]; omega
        have hld : Pcell F (padd p ((((l.length - 1 : Nat) : Nat) : Int).toNat * 1)) = some (u64 (x : Nat)) := by
          have h5 : l.length - 1 < (l.map nu).length := by rw [List.length_map]; omega
          have h6 := frow_get hf h5
          rw [List.getElem_map] at h6
          have h7 : l[l.length - 1]'(by omega) = x := by rw [List.getElem?_eq_getElem (by omega)] at hget; exact Option.some.inj hget
          rw [h7] at h6
          rw [Int.toNat_natCast, Nat.mul_one]
          exact h6
        have hdl : l.dropLast.length = l.length - 1 := List.length_dropLast
        (refine run ?_; repeat intro b)
        refine s_regiond (by kernel_rfl) ?_
        (refine run ?_; repeat intro b)
        refine s_plain _ rfl rfl rfl bd153 rfl (rollhalf_ok n (by omega) F) ?_
        (refine run ?_; repeat intro b)
        rw [ew]
        refine s_pureO rfl rfl rfl ⟨by omega, by omega, frow_some hf (j := 0) (by rw [List.length_map]; omega)⟩ ?_
        refine s_load (u64 (x : Nat)) rfl rfl rfl rfl hld ?_
        (refine run ?_; repeat intro b)
        rw [ew]
        refine s_pureO rfl rfl rfl ⟨by omega, by omega⟩ ?_
        rw [Int.toNat_natCast]
        (refine run ?_; repeat intro b)
        have fr : Frow F (slBase p 0 c 1) (l.dropLast.map nu) := by rw [slBase_zero]; exact frow_nus_dropLast hf
        have hx2 : ∀ x ∈ l.dropLast, x < 18446744073709551616 := fun x h => hx x (List.dropLast_subset l h)
        refine s_if (decide (i < half n)) ?_ (fun h5 => ?_) (fun h5 => ?_)
        · refine congrArg (fun b => some (EV.v (.bool b))) ?_
          rw [decide_eq_decide]; omega
        · have h6 : i < half n := of_decide_eq_true h5
          have e : madeF (f + 1) n i m l = (twoN (madeF f (half n) i m l.dropLast).1 x, (madeF f (half n) i m l.dropLast).2) := by simp only [madeF, if_neg h3, hlast, if_pos h6]
          have ih := made_ok F f (half n) i m l.dropLast (slBase p 0 c 1) c (by omega) (by omega) (by omega) h6 hm hx2 (by omega) (by omega) fr
          rw [hdl] at ih
          (refine run ?_; repeat intro b)
          refine s_plain _ rfl rfl rfl bd131 rfl ih ?_
          (refine run ?_; repeat intro b)
          refine s_plain _ rfl rfl rfl bd62 rfl (marktwo_ok 5 _ _ (by decide) (MM_u64 (madeF_lt _ _ _ _ _ hm)) hxm F) ?_
          (refine run ?_; repeat intro b)
          rw [e]
          rfl
        · have h6 : ¬ i < half n := of_decide_eq_false h5
          have e : madeF (f + 1) n i m l = (twoN x (madeF f (n - half n) (i - half n) m l.dropLast).1, (madeF f (n - half n) (i - half n) m l.dropLast).2) := by simp only [madeF, if_neg h3, hlast, if_neg h6]
          have ih := made_ok F f (n - half n) (i - half n) m l.dropLast (slBase p 0 c 1) c (by omega) (by omega) (by omega) (by omega) hm hx2 (by omega) (by omega) fr
          rw [hdl] at ih
          have ew1 : IntKind.i64.wrap ((n : Int) - ((half n : Nat) : Int)) = ((n - half n : Nat) : Int) := by rw [wrap_i64 (by omega) (by omega)]; omega
          have ew2 : IntKind.i64.wrap ((i : Int) - ((half n : Nat) : Int)) = ((i - half n : Nat) : Int) := by rw [wrap_i64 (by omega) (by omega)]; omega
          (refine run ?_; repeat intro b)
          rw [ew1, ew2]
          refine s_plain _ rfl rfl rfl bd131 rfl ih ?_
          (refine run ?_; repeat intro b)
          refine s_plain _ rfl rfl rfl bd62 rfl (marktwo_ok 5 _ _ (by decide) hxm (MM_u64 (madeF_lt _ _ _ _ _ hm)) F) ?_
          (refine run ?_; repeat intro b)
          rw [e]
          rfl
/-- What is wrong with a question, and its answer. -/
def isInBad (n i : Int) : Bool := decide (n < 1) || decide (40 < n) || decide (i < 0) || decide (n ≤ i)
def isInE (n i : Int) (text : List UInt8) : Int := if isInBad n i = true then 4 else if 40 < text.length then 2 else 0
def isInB (r : Nat) (n i : Int) (text : List UInt8) (l : List Nat) : Bool := if isInE n i text = 0 then (madeF n.toNat n.toNat i.toNat (oneN text) l).2 && (((madeF n.toNat n.toNat i.toNat (oneN text) l).1 : Nat) : Int) == (r : Nat) else false
theorem isIn_ok (r : Nat) (n i : Int) (text : List UInt8) (l : List Nat) {p : Option Addr} {c : Nat} {F : Hp} (hx : ∀ x ∈ l, x < 18446744073709551616) (hl : l.length ≤ 4611686018427387904) (hc : l.length ≤ c) (hf : Frow F p (l.map nu)) :
    Plain Try.prog F 82 [u64 (r : Nat), i64 n, i64 i, S text, .slice p l.length c] (pair (.bool (isInB r n i text l)) (i64 (isInE n i text))) := by
  refine plain_vc (N := 49) (rv := [.tmp 10, .tmp 11]) tbok mixed Try.func82 rfl rfl rfl rfl rfl ?_
  (refine run ?_; repeat intro b)
  refine s_if (isInBad n i) ?_ (fun h => ?_) (fun h => ?_)
  · refine congrArg (fun b => some (EV.v (.bool b))) ?_
    rw [bpick_or, bpick_or, bpick_or]
    rfl
  · have e1 : isInE n i text = 4 := by unfold isInE; rw [if_pos h]
    have e2 : isInB r n i text l = false := by unfold isInB; rw [e1]; rfl
    (refine run ?_; repeat intro b)
    rw [e1, e2]
    rfl
  · have hb : 1 ≤ n ∧ n ≤ 40 ∧ 0 ≤ i ∧ i < n := by
      unfold isInBad at h
      simp only [Bool.or_eq_false_iff, decide_eq_false_iff_not] at h
      omega
    (refine run ?_; repeat intro b)
    refine s_if (decide (40 < text.length)) ?_ (fun h2 => ?_) (fun h2 => ?_)
    · refine congrArg (fun b => some (EV.v (.bool b))) ?_
      rw [decide_eq_decide, bl_S]; omega
    · have h3 : 40 < text.length := of_decide_eq_true h2
      have e1 : isInE n i text = 2 := by unfold isInE; rw [h, if_neg (by decide), if_pos h3]
      have e2 : isInB r n i text l = false := by unfold isInB; rw [e1]; rfl
      (refine run ?_; repeat intro b)
      rw [e1, e2]
      rfl
    · have h3 : ¬ 40 < text.length := of_decide_eq_false h2
      have e1 : isInE n i text = 0 := by unfold isInE; rw [h, if_neg (by decide), if_neg h3]
      have hm := made_ok F n.toNat n.toNat i.toNat (oneN text) l p c (by omega) (Nat.le_refl _) (by omega) (by omega) (oneN_lt _) hx hl hc hf
      rw [Int.toNat_of_nonneg (by omega : 0 ≤ n), Int.toNat_of_nonneg hb.2.2.1] at hm
      (refine run ?_; repeat intro b)
      refine s_plain _ rfl rfl rfl bd132 rfl (rollone_ok text (by omega) F) ?_
      (refine run ?_; repeat intro b)
      refine s_plain _ rfl rfl rfl bd131 rfl hm ?_
      (refine run ?_; repeat intro b)
      have e2 : isInB r n i text l = ((madeF n.toNat n.toNat i.toNat (oneN text) l).2 && (((madeF n.toNat n.toNat i.toNat (oneN text) l).1 : Nat) : Int) == (r : Nat)) := by unfold isInB; rw [if_pos e1]
      rw [bpick_and, e1, e2]
      rfl
theorem bools_cells (l : List Bool) (x : Bool) (n : Nat) (h : n = l.length) : ((l ++ [x]).map Value.bool).map EV.v = ((l.map Value.bool).map EV.v).take (n * 1) ++ [.v (.bool x)] := by
  subst h
  rw [List.take_of_length_le (by simp)]
  simp
theorem rights_go {f n i : Nat} (h1 : 1 < n) (hf : n ≤ f) : rights f n i = if i < half n then true :: rights f (half n) i else false :: rights f (n - half n) (i - half n) := by
  have hr := half_range (n := n) (by omega)
  obtain ⟨g, rfl⟩ : ∃ g, f = g + 1 := ⟨f - 1, by omega⟩
  simp only [rights]
  rw [if_neg (by omega)]
  split
  · rw [rights_fuel g (g + 1) _ _ (by omega) (by omega)]; simp only [rights]
  · rw [rights_fuel g (g + 1) (n - half n) _ (by omega) (by omega)]; simp only [rights]
theorem rights_stop {f n i : Nat} (h1 : ¬ 1 < n) : rights f n i = [] := by
  cases f with
  | zero => rfl
  | succ f => simp only [rights]; rw [if_pos (by omega)]
def rmOk (n i : Nat) (l : List Nat) : Bool := decide (l.length = (rights n n i).length)
def rmN (n i : Nat) (text : List UInt8) (l : List Nat) : Nat := if rmOk n i l = true then foldM (oneN text) (l.zip (rights n n i).reverse) else 0
theorem foldM_lt (m : Nat) (l : List (Nat × Bool)) (hm : m < MM) : foldM m l < MM := by
  rcases List.eq_nil_or_concat l with rfl | ⟨q, x, rfl⟩
  · exact hm
  · rw [List.concat_eq_append, foldM_snoc]
    split
    · exact twoN_lt _ _
    · exact twoN_lt _ _
set_option maxHeartbeats 2000000 in
theorem refrollmade_ok (n i : Nat) (text : List UInt8) (l : List Nat) {p : Option Addr} {c : Nat} {F : Hp} (hn1 : 1 ≤ n) (hn : n ≤ 40) (hi : i < n) (ht : text.length ≤ 4611686018427387903) (hx : ∀ x ∈ l, x < 18446744073709551616) (hl : l.length ≤ 4611686018427387904) (hf : Frow F p (l.map nu)) :
    Plain Try.prog F 87 [i64 (n : Nat), i64 (i : Nat), S text, .slice p l.length c] (pair (u64 (rmN n i text l : Nat)) (.bool (rmOk n i l))) := by
  refine plain_vc (N := 68) (rv := [.tmp 8, .tmp 9]) tbok mixed Try.func87 rfl rfl rfl rfl rfl ?_
  (refine run ?_; repeat intro b)
  refine s_loopP (fun q : Nat × Nat × List Bool × Nat × Option Nat × Nat => rights n n i = q.2.2.1 ++ rights n q.1 q.2.1 ∧ 1 ≤ q.1 ∧ q.1 ≤ n ∧ q.2.1 < q.1 ∧ q.2.2.2.1 = q.2.2.1.length ∧ (q.2.2.2.2.1 = none → q.2.2.2.1 = 0 ∧ q.2.2.2.2.2 = 0) ∧ q.2.2.2.1 ≤ q.2.2.2.2.2)
    (fun q => ⟨[(10, .row 0 0 q.2.2.2.1 q.2.2.2.2.2), (0, .v (i64 (q.1 : Nat))), (1, .v (i64 (q.2.1 : Nat))), (2, .v (S text)), (3, .v (.slice p l.length c))], F, [(0, ⟨q.2.2.2.2.1, (q.2.2.1.map Value.bool).map EV.v, 4, q.2.2.2.2.2 * 1⟩)], 1⟩) (fun q => q.1) (n, i, [], 0, none, 0) ⟨rfl, hn1, Nat.le_refl _, hi, rfl, fun _ => ⟨rfl, rfl⟩, Nat.le_refl _⟩ (VS.nilrow 10 4 [0, 1, 2, 3] rfl rfl (VS.id rfl)) ?_
  rintro ⟨n', i', rs, k, blk, cap⟩ ⟨h1, h2, h3, h4, h5, h6, h7⟩
  dsimp only at h1 h2 h3 h4 h5 h6 h7 ⊢
  have hrl : rs.length ≤ n := by
    have := rights_len n n i
    rw [h1] at this
    simp only [List.length_append] at this
    omega
  (refine run ?_; repeat intro b)
  refine s_if (decide (1 < n')) ?_ (fun h => ?_) (fun h => ?_)
  · refine congrArg (fun b => some (EV.v (.bool b))) ?_
    rw [decide_eq_decide]; omega
  · have h8 : 1 < n' := of_decide_eq_true h
    have hr := half_range (n := n') (by omega)
    have hgo := rights_go (i := i') h8 h3
    (refine run ?_; repeat intro b)
    refine s_plain _ rfl rfl rfl bd133 rfl (refhalf_ok n' (by omega) F) ?_
    (refine run ?_; repeat intro b)
    refine s_if (decide (i' < half n')) ?_ (fun h9 => ?_) (fun h9 => ?_)
    · refine congrArg (fun b => some (EV.v (.bool b))) ?_
      rw [decide_eq_decide]; omega
    · have h10 : i' < half n' := of_decide_eq_true h9
      rw [if_pos h10] at hgo
      have h11 : rights n n i = (rs ++ [true]) ++ rights n (half n') i' := by rw [h1, hgo, List.append_assoc]; rfl
      have hcells := bools_cells rs true k h5
      (refine run ?_; repeat intro b)
      refine s_appR rfl rfl rfl rfl rfl rfl rfl rfl (src_row rfl rfl) one1 h6 h7 rfl (by simp [h5]) (by show _ * 1 ≤ _; omega) (fun h => by cases h) (fun _ b2 c2 hc2 => ?_)
      (refine run ?_; repeat intro b)
      exact s_loopPq (half n', i', rs ++ [true], k + 1, some b2, c2) 0 [(2, 0)] [10, 0, 1, 2, 3] [(0, ⟨some b2, ((rs ++ [true]).map Value.bool).map EV.v, 4, c2 * 1⟩)] ⟨h11, hr.1, by simp only; omega, h10, by simp [h5], (fun h => by cases h), hc2⟩ (by simp only; omega) (Nat.min_le_left _ _)
        ⟨rfl, ⟨_, rfl, rfl, rfl, rfl, .inl ⟨hcells, fun e he => all_v _ e (hcells ▸ he)⟩⟩, trivial⟩ rfl rfl rfl rfl rfl rfl rfl
    · have h10 : ¬ i' < half n' := of_decide_eq_false h9
      rw [if_neg h10] at hgo
      have h11 : rights n n i = (rs ++ [false]) ++ rights n (n' - half n') (i' - half n') := by rw [h1, hgo, List.append_assoc]; rfl
      have hcells := bools_cells rs false k h5
      have ew1 : IntKind.i64.wrap ((n' : Int) - ((half n' : Nat) : Int)) = ((n' - half n' : Nat) : Int) := by rw [wrap_i64 (by omega) (by omega)]; omega
      have ew2 : IntKind.i64.wrap ((i' : Int) - ((half n' : Nat) : Int)) = ((i' - half n' : Nat) : Int) := by rw [wrap_i64 (by omega) (by omega)]; omega
      (refine run ?_; repeat intro b)
      refine s_appR rfl rfl rfl rfl rfl rfl rfl rfl (src_row rfl rfl) one1 h6 h7 rfl (by simp [h5]) (by show _ * 1 ≤ _; omega) (fun h => by cases h) (fun _ b2 c2 hc2 => ?_)
      (refine run ?_; repeat intro b)
      rw [ew1, ew2]
      exact s_loopPq (n' - half n', i' - half n', rs ++ [false], k + 1, some b2, c2) 0 [(2, 0)] [10, 0, 1, 2, 3] [(0, ⟨some b2, ((rs ++ [false]).map Value.bool).map EV.v, 4, c2 * 1⟩)] ⟨h11, by simp only; omega, by simp only; omega, by simp only; omega, by simp [h5], (fun h => by cases h), hc2⟩ (by simp only; omega) (Nat.min_le_left _ _)
        ⟨rfl, ⟨_, rfl, rfl, rfl, rfl, .inl ⟨hcells, fun e he => all_v _ e (hcells ▸ he)⟩⟩, trivial⟩ rfl rfl rfl rfl rfl rfl rfl
  · have h8 : ¬ 1 < n' := of_decide_eq_false h
    rw [rights_stop h8, List.append_nil] at h1
    (refine run ?_; repeat intro b)
    refine s_if (decide (l.length ≠ k)) ?_ (fun h9 => ?_) (fun h9 => ?_)
    · refine congrArg (fun b => some (EV.v (.bool b))) ?_
      rw [Bool.eq_iff_iff]
      simp only [bne_iff_ne, decide_eq_true_eq, ne_eq]
      omega
    · have h10 : rmOk n i l = false := by
        unfold rmOk
        rw [h1, decide_eq_false_iff_not, ← h5]
        exact of_decide_eq_true h9
      have e : rmN n i text l = 0 := by unfold rmN; rw [h10]; rfl
      (refine run ?_; repeat intro b)
      rw [e, h10]
      rfl
    · have h9' : l.length = k := by simpa using h9
      have h10 : rmOk n i l = true := by unfold rmOk; rw [h1, decide_eq_true_eq, ← h5]; exact h9'
      have e : rmN n i text l = foldM (oneN text) (l.zip rs.reverse) := by unfold rmN; rw [if_pos h10, h1]
      have hlr : l.length = rs.reverse.length := by rw [List.length_reverse, ← h5]; exact h9'
      have hzl : (l.zip rs.reverse).length = l.length := by rw [List.length_zip]; omega
      (refine run ?_; repeat intro b)
      refine s_pureO rfl rfl rfl (by show ([4] : List UInt8).length + _ ≤ _; simp only [bl_S, List.length_cons, List.length_nil]; unfold maxInt; omega) ?_
      refine s_plain _ rfl rfl rfl bd58 rfl (refmark_ok (4 :: text) (by simp only [List.length_cons]; omega) F) ?_
      (refine run ?_; repeat intro b)
      refine s_loopP (fun j : Nat => j ≤ l.length) (fun j => ⟨[(3, .v (.slice p l.length c)), (10, .row 0 0 k cap), (12, .v (u64 (foldM (oneN text) ((l.zip rs.reverse).take j) : Nat))), (43, .v (.slice p l.length c)), (44, .v (i64 (l.length : Nat))), (45, .v (i64 (j : Nat)))], F, [(0, ⟨blk, (rs.map Value.bool).map EV.v, 4, cap * 1⟩)], 1⟩) (fun j => l.length - j) 0 (Nat.zero_le _) (VS.keepN [3, 10, 12, 43, 44, 45] rfl rfl) ?_
      intro j hj
      (refine run ?_; repeat intro b)
      refine s_if _ rfl (fun h11 => ?_) (fun h11 => ?_)
      · have hlt : j < l.length := by simpa using h11
        cases blk with
        | none => exact absurd (h6 rfl).1 (by omega)
        | some b0 =>
          have ew1 : IntKind.i64.wrap (IntKind.i64.wrap ((k : Int) - 1) - (j : Int)) = ((k - 1 - j : Nat) : Int) := by
            rw [wrap_i64 (n := (k : Int) - 1) (by omega) (by omega), wrap_i64 (by omega) (by omega)]; omega
          have hjr : k - 1 - j < rs.length := by omega
          have hrev : rs.reverse[j]'(by omega) = rs[k - 1 - j] := by
            rw [List.getElem_reverse]
            congr 1
            omega
          have hzj : (l.zip rs.reverse)[j]'(by omega) = (l[j], rs[k - 1 - j]) := by rw [List.getElem_zip, hrev]
          have hstep : foldM (oneN text) ((l.zip rs.reverse).take (j + 1)) = if rs[k - 1 - j] = true then twoN (foldM (oneN text) ((l.zip rs.reverse).take j)) l[j] else twoN l[j] (foldM (oneN text) ((l.zip rs.reverse).take j)) := by
            rw [List.take_succ_eq_append_getElem (by omega), hzj, foldM_snoc]
          have hm := foldM_lt (oneN text) ((l.zip rs.reverse).take j) (oneN_lt _)
          have hxj := hx l[j] (List.getElem_mem hlt)
          (refine run ?_; repeat intro b)
          refine s_pureO rfl rfl rfl ⟨by omega, by omega, frow_some hf (j := j) (by simpa using hlt)⟩ ?_
          refine s_load (u64 (l[j] : Nat)) rfl rfl rfl rfl (by have := frow_get hf (j := j) (by simpa using hlt); simpa using this) ?_
          (refine run ?_; repeat intro b)
          rw [ew1]
          refine s_pureO rfl rfl rfl ⟨by omega, by omega, _, _, rfl, rfl⟩ ?_
          refine s_locX (.bool rs[k - 1 - j]) rfl rfl rfl rfl rfl ?_ ?_
          · show ((rs.map Value.bool).map EV.v)[0 + ((k - 1 - j : Nat) : Int).toNat * 1]? = _
            rw [Int.toNat_natCast, Nat.zero_add, Nat.mul_one, List.getElem?_map, List.getElem?_map, List.getElem?_eq_getElem hjr]
            rfl
          (refine run ?_; repeat intro b)
          refine s_if _ rfl (fun h12 => ?_) (fun h12 => ?_)
          · rw [if_pos h12] at hstep
            (refine run ?_; repeat intro b)
            refine s_plain _ rfl rfl rfl bd61 rfl (reftwo_ok 5 _ _ (by decide) (MM_u64 hm) hxj F) ?_
            refine s_plain _ rfl rfl rfl bd58 rfl (refmark_ok (two 5 _ _) (by rw [two_length]; decide) F) ?_
            (refine run ?_; repeat intro b)
            rw [wrap_succ (by omega)]
            exact s_loopPn (j + 1) hlt (by omega) (VS.keepN [3, 10, 12, 43, 44, 45] rfl (by rw [hstep]; rfl))
          · rw [if_neg (by rw [h12]; decide)] at hstep
            (refine run ?_; repeat intro b)
            refine s_plain _ rfl rfl rfl bd61 rfl (reftwo_ok 5 _ _ (by decide) hxj (MM_u64 hm) F) ?_
            refine s_plain _ rfl rfl rfl bd58 rfl (refmark_ok (two 5 _ _) (by rw [two_length]; decide) F) ?_
            (refine run ?_; repeat intro b)
            rw [wrap_succ (by omega)]
            exact s_loopPn (j + 1) hlt (by omega) (VS.keepN [3, 10, 12, 43, 44, 45] rfl (by rw [hstep]; rfl))
      · have hge : j = l.length := by
          have : ¬ j < l.length := by simpa using h11
          omega
        subst hge
        rw [List.take_of_length_le (by omega)]
        (refine run ?_; repeat intro b)
        rw [e, h10]
        rfl
end Go.Proofs.Ytaienbnadbadfaa
