/-
Books: what a name stands for, set, dropped, plainly.
-/
import Derived.Test.YthkkgphjjmhglaaGreatDoorSetFwD
import Derived.Test.YthkkgphjjmhglaaGreatDoorProof
/-!
Books: what a name stands for, set, dropped, plainly.
-/
namespace Go.Proofs.YthkkgphjjmhglaaGreatDoor
set_option linter.unusedVariables false
set_option linter.unusedSimpArgs false
open Go.TR
/-- The place of a name: the first entry that is not ahead of it. -/
def lbN (l : List Entry) (n : List UInt8) : Nat := l.findIdx fun x => !ahead x.name n
def hasN (l : List Entry) (n : List UInt8) : Bool := l.any fun x => decide (x.name = n)
def standsO (l : List Entry) (n : List UInt8) : Option (List UInt8) := (l.find? fun x => decide (x.name = n)).map Entry.value
def nextI (l : List Entry) (n : List UInt8) : Nat := if hasN l n = true then lbN l n + 1 else lbN l n
def setL (l : List Entry) (n v : List UInt8) : List Entry := l.take (lbN l n) ++ ⟨n, v⟩ :: l.drop (nextI l n)
def dropL (l : List Entry) (n : List UInt8) : List Entry := l.filter fun x => !decide (x.name = n)
/-- The names of a book rise. -/
def Book (l : List Entry) : Prop := List.Pairwise (fun a b => ahead a.name b.name = true) l
theorem book_of {l : List Entry} (h : bookFault l = 0) : Book l := (bookG_rise (bookFault_zero h).2.2).2
theorem lb_le (l : List Entry) (n : List UInt8) : lbN l n ≤ l.length := List.findIdx_le_length
theorem lb_lt {l : List Entry} {n : List UInt8} {k : Nat} (h : k < lbN l n) : ahead (l[k]'(Nat.lt_of_lt_of_le h (lb_le l n))).name n = true := by
  have := List.not_of_lt_findIdx h
  simpa using this
theorem lb_ge {l : List Entry} (hb : Book l) {n : List UInt8} {k : Nat} (h : lbN l n ≤ k) (hk : k < l.length) : ahead l[k].name n = false := by
  have h0 : lbN l n < l.length := by omega
  have h1 : ahead l[lbN l n].name n = false := by
    have := List.findIdx_getElem (p := fun x : Entry => !ahead x.name n) (xs := l) (w := h0)
    simp only [Bool.not_eq_true'] at this
    exact this
  by_cases he : lbN l n = k
  · subst he; exact h1
  · have h2 := List.pairwise_iff_getElem.1 hb (lbN l n) k h0 hk (by omega)
    by_cases h3 : ahead l[k].name n = true
    · rw [ahead_trans h2 h3] at h1; cases h1
    · simpa using h3
/-- Where the name is, it is there. -/
theorem has_iff {l : List Entry} (hb : Book l) (n : List UInt8) : hasN l n = true ↔ ∃ h : lbN l n < l.length, l[lbN l n].name = n := by
  unfold hasN
  rw [List.any_eq_true]
  constructor
  · rintro ⟨x, hx, hn⟩
    have hn := of_decide_eq_true hn
    obtain ⟨k, hk, rfl⟩ := List.getElem_of_mem hx
    have h1 : ¬ k < lbN l n := fun h => by
      have := lb_lt h
      rw [hn, ahead_irr] at this
      cases this
    have h0 : lbN l n < l.length := by omega
    refine ⟨h0, ?_⟩
    by_cases he : lbN l n = k
    · subst he; exact hn
    · have h2 := List.pairwise_iff_getElem.1 hb (lbN l n) k h0 hk (by omega)
      rw [hn, lb_ge hb (Nat.le_refl _) h0] at h2
      cases h2
  · rintro ⟨h, hn⟩
    exact ⟨_, List.getElem_mem h, decide_eq_true hn⟩
theorem book_uniq {l : List Entry} (hb : Book l) {i j : Nat} (hi : i < l.length) (hj : j < l.length) (h : l[i].name = l[j].name) : i = j := by
  rcases Nat.lt_trichotomy i j with h1 | h1 | h1
  · have := List.pairwise_iff_getElem.1 hb i j hi hj h1
    rw [h, ahead_irr] at this
    cases this
  · exact h1
  · have := List.pairwise_iff_getElem.1 hb j i hj hi h1
    rw [h, ahead_irr] at this
    cases this
theorem stands_mem {l : List Entry} (hb : Book l) {x : Entry} (hx : x ∈ l) : standsO l x.name = some x.value := by
  obtain ⟨i, hi, rfl⟩ := List.getElem_of_mem hx
  unfold standsO
  have e : (l.find? fun y => decide (y.name = l[i].name)) = some l[i] := by
    rw [List.find?_eq_some_iff_getElem]
    refine ⟨by simp, i, hi, rfl, fun j hj => ?_⟩
    have : l[j].name ≠ l[i].name := fun e => by
      have := book_uniq hb (by omega) hi e
      omega
    simp [this]
  rw [e]
  rfl
theorem next_ahead {l : List Entry} (hb : Book l) {n : List UInt8} {k : Nat} (h : nextI l n ≤ k) (hk : k < l.length) : ahead n l[k].name = true := by
  unfold nextI at h
  by_cases hh : hasN l n = true
  · rw [if_pos hh] at h
    obtain ⟨h0, hn⟩ := (has_iff hb n).1 hh
    have := List.pairwise_iff_getElem.1 hb (lbN l n) k h0 hk (by omega)
    rw [hn] at this
    exact this
  · rw [if_neg hh] at h
    refine ahead_tri (lb_ge hb h hk) fun e => hh ?_
    exact List.any_eq_true.2 ⟨_, List.getElem_mem hk, decide_eq_true e⟩
theorem set_book {l : List Entry} (hb : Book l) (n v : List UInt8) : Book (setL l n v) := by
  unfold setL Book
  rw [List.pairwise_append]
  refine ⟨hb.sublist (List.take_sublist _ _), ?_, ?_⟩
  · refine List.Pairwise.cons (fun x hx => ?_) (hb.sublist (List.drop_sublist _ _))
    obtain ⟨k, hk, rfl⟩ := List.getElem_of_mem hx
    rw [List.length_drop] at hk
    rw [List.getElem_drop]
    exact next_ahead (n := n) hb (k := nextI l n + k) (by omega) (by omega)
  · intro x hx y hy
    obtain ⟨i, hi, rfl⟩ := List.getElem_of_mem hx
    rw [List.length_take] at hi
    rw [List.getElem_take]
    have h1 := lb_lt (l := l) (n := n) (k := i) (by omega)
    rcases List.mem_cons.1 hy with rfl | hy
    · exact h1
    · obtain ⟨k, hk, rfl⟩ := List.getElem_of_mem hy
      rw [List.length_drop] at hk
      rw [List.getElem_drop]
      exact ahead_trans h1 (next_ahead hb (k := nextI l n + k) (by omega) (by omega))
theorem set_mem {l : List Entry} (hb : Book l) {n v : List UInt8} {x : Entry} (hx : x ∈ setL l n v) : x = ⟨n, v⟩ ∨ (x ∈ l ∧ x.name ≠ n) := by
  unfold setL at hx
  rcases List.mem_append.1 hx with hx | hx
  · right
    obtain ⟨i, hi, rfl⟩ := List.getElem_of_mem hx
    rw [List.length_take] at hi
    rw [List.getElem_take]
    have h1 := lb_lt (l := l) (n := n) (k := i) (by omega)
    exact ⟨List.getElem_mem _, fun e => by rw [e, ahead_irr] at h1; cases h1⟩
  · rcases List.mem_cons.1 hx with rfl | hx
    · exact .inl rfl
    · right
      obtain ⟨k, hk, rfl⟩ := List.getElem_of_mem hx
      rw [List.length_drop] at hk
      rw [List.getElem_drop]
      have h1 := next_ahead hb (n := n) (k := nextI l n + k) (by omega) (by omega)
      exact ⟨List.getElem_mem _, fun e => by
        have e2 : l[nextI l n + k].name = n := e
        rw [e2, ahead_irr] at h1; cases h1⟩
theorem set_names {l : List Entry} (hb : Book l) (n v s : List UInt8) : s ∈ (setL l n v).map Entry.name ↔ s ∈ l.map Entry.name ++ [n] := by
  rw [List.mem_map, List.mem_append, List.mem_map, List.mem_singleton]
  constructor
  · rintro ⟨x, hx, rfl⟩
    rcases set_mem hb hx with rfl | ⟨hx, _⟩
    · exact .inr rfl
    · exact .inl ⟨x, hx, rfl⟩
  · rintro (⟨x, hx, rfl⟩ | rfl)
    · by_cases he : x.name = n
      · exact ⟨⟨n, v⟩, by unfold setL; simp, he.symm⟩
      · refine ⟨x, ?_, rfl⟩
        obtain ⟨i, hi, rfl⟩ := List.getElem_of_mem hx
        unfold setL
        rw [List.mem_append]
        by_cases h1 : i < lbN l n
        · exact .inl (by
            have : (l.take (lbN l n))[i]'(by rw [List.length_take]; omega) = l[i] := List.getElem_take
            rw [← this]; exact List.getElem_mem _)
        · right
          refine List.mem_cons_of_mem _ ?_
          have hi2 : nextI l n ≤ i := by
            unfold nextI
            by_cases hh : hasN l n = true
            · rw [if_pos hh]
              obtain ⟨h0, hn⟩ := (has_iff hb n).1 hh
              have : i ≠ lbN l n := fun e => he (by subst e; exact hn)
              omega
            · rw [if_neg hh]; omega
          have : (l.drop (nextI l n))[i - nextI l n]'(by rw [List.length_drop]; omega) = l[i] := by
            rw [List.getElem_drop]
            congr 1
            omega
          rw [← this]
          exact List.getElem_mem _
    · exact ⟨⟨s, v⟩, by unfold setL; simp, rfl⟩
/-- What the reference sets. -/
def refSet (l : List Entry) (n v : List UInt8) : List Entry := (ordN (l.map Entry.name ++ [n])).map fun m => ⟨m, if m = n then v else (standsO l m).getD []⟩
theorem ref_set {l : List Entry} (hb : Book l) (n v : List UInt8) : refSet l n v = setL l n v := by
  have h1 : ordN (l.map Entry.name ++ [n]) = (setL l n v).map Entry.name := by
    refine rise_eq (ordN_rise _) ?_ fun s => by rw [ordN_mem, set_names hb]
    unfold Rise
    rw [List.pairwise_map]
    exact set_book hb n v
  unfold refSet
  rw [h1, List.map_map]
  have : ∀ x ∈ setL l n v, ((fun m => (⟨m, if m = n then v else (standsO l m).getD []⟩ : Entry)) ∘ Entry.name) x = x := fun x hx => by
    rcases set_mem hb hx with rfl | ⟨hx, hne⟩
    · simp
    · simp only [Function.comp_apply]
      rw [if_neg hne, stands_mem hb hx]
      rfl
  rw [List.map_congr_left this, List.map_id']
theorem set_len {l : List Entry} (hb : Book l) (n v : List UInt8) : (setL l n v).length = if hasN l n = true then l.length else l.length + 1 := by
  have := lb_le l n
  unfold setL
  rw [List.length_append, List.length_cons, List.length_take, List.length_drop]
  by_cases hh : hasN l n = true
  · obtain ⟨h0, _⟩ := (has_iff hb n).1 hh
    unfold nextI
    rw [if_pos hh, if_pos hh]
    omega
  · unfold nextI
    rw [if_neg hh, if_neg hh]
    omega
end Go.Proofs.YthkkgphjjmhglaaGreatDoor
/-!
Package tree: find, Get; the reference's Stands: the walks.
-/
namespace Go.Proofs.YthkkgphjjmhglaaGreatDoor
set_option linter.unusedVariables false
set_option linter.unusedSimpArgs false
open Go.TR
def findE (l : List Entry) (n : List UInt8) : Int := if bookFault l ≠ 0 then bookFault l else if goodName n = true then 0 else 3
def findN (l : List Entry) (n : List UInt8) : Nat := if findE l n = 0 then lbN l n else 0
def findB (l : List Entry) (n : List UInt8) : Bool := decide (findE l n = 0) && hasN l n
theorem findE_zero {l : List Entry} {n : List UInt8} (h : findE l n = 0) : bookFault l = 0 ∧ goodName n = true := by
  unfold findE at h
  split at h
  · rename_i h1; exact absurd h h1
  · rename_i h1
    split at h
    · rename_i h2; exact ⟨by simpa using h1, h2⟩
    · cases h
theorem mid_val (i j : Nat) (h : i + j ≤ 100) : IntKind.i64.wrap ((IntKind.u64.wrap (IntKind.i64.wrap ((i : Int) + (j : Int)))).fdiv (2 ^ min (1 : Int).toNat IntKind.u64.bits)) = (((i + j) / 2 : Nat) : Int) := by
  have e1 : IntKind.i64.wrap ((i : Int) + (j : Int)) = ((i + j : Nat) : Int) := by rw [wrap_i64 (by omega) (by omega)]; omega
  have e2 : IntKind.u64.wrap ((i + j : Nat) : Int) = ((i + j : Nat) : Int) := by rw [u64w]; omega
  have e3 : (2 ^ min (1 : Int).toNat IntKind.u64.bits : Int) = ((2 : Nat) : Int) := rfl
  rw [e1, e2, e3, ← Int.ofNat_fdiv, wrap_i64 (by omega) (by omega)]
theorem lb_order {l : List Entry} (hb : Book l) (hg : ∀ x ∈ l, goodName x.name = true) {n : List UInt8} (hn : goodName n = true) {k : Nat} (hk : k < l.length) : decide (orderN l[k].name n < 0) = decide (k < lbN l n) := by
  rw [orderN_good (hg _ (List.getElem_mem hk)) hn]
  by_cases h : k < lbN l n
  · rw [if_pos (lb_lt h), decide_eq_true h]
    rfl
  · rw [if_neg (by rw [lb_ge hb (by omega) hk]; decide), decide_eq_false h]
    split <;> rfl
theorem lb_has {l : List Entry} (hb : Book l) (hg : ∀ x ∈ l, goodName x.name = true) {n : List UInt8} (hn : goodName n = true) : hasN l n = (decide (lbN l n < l.length) && (orderN (l.getD (lbN l n) ⟨[], []⟩).name n == 0)) := by
  rw [Bool.eq_iff_iff, has_iff hb, Bool.and_eq_true, decide_eq_true_eq, beq_iff_eq]
  constructor
  · rintro ⟨h, e⟩
    rw [List.getD_eq_getElem?_getD, List.getElem?_eq_getElem h]
    refine ⟨h, ?_⟩
    show orderN l[lbN l n].name n = 0
    rw [orderN_good (hg _ (List.getElem_mem h)) hn, e, if_neg (by rw [ahead_irr]; decide), if_pos rfl]
  · rintro ⟨h, e⟩
    rw [List.getD_eq_getElem?_getD, List.getElem?_eq_getElem h] at e
    refine ⟨h, ?_⟩
    have e : orderN l[lbN l n].name n = 0 := e
    rw [orderN_good (hg _ (List.getElem_mem h)) hn, if_neg (by rw [lb_ge hb (Nat.le_refl _) h]; decide)] at e
    split at e
    · assumption
    · cases e
attribute [local irreducible] ahead orderN pathN wayN goodName bookFault markN lbN hasN
attribute [local irreducible] vc vcOps seqK blockK loopK retK retG retI loopV Plain CallOK CallIn bodied VS vcAny dropG backK brK loopPK IntKind.wrap
set_option maxRecDepth 100000
theorem find1_ok (x : Entry) (n : List UInt8) (hx : x.wf) (hn : n.length ≤ 4611686018427387904) (F : Hp) : Plain Tryz.prog F 151 [x.v, S n] (i64 (orderN x.name n)) := by
  refine plain_vc (N := 9) (rv := [.tmp 4]) tbok mixed Tryz.func151 rfl rfl rfl rfl rfl ?_
  (refine run ?_; repeat intro b)
  refine s_plain _ rfl rfl rfl bd128 rfl (order_ok x.name n hx.name hn F) ?_
  (refine run ?_; repeat intro b)
  rfl
set_option maxHeartbeats 2000000 in
theorem bsearch_ok (l : List Entry) (n : List UInt8) (h0 : bookFault l = 0) (hn : goodName n = true) (hw : ∀ x ∈ l, x.wf) {p : Option Addr} {c : Nat} {F : Hp} (hf : Frow F p (l.flatMap Entry.row)) : Plain Tryz.prog F 150 [.slice p l.length c, S n, .func (.func 151) #[] #[]] (pair (i64 (lbN l n : Nat)) (.bool (hasN l n))) := by
  obtain ⟨h24, hgood, _⟩ := bookFault_zero h0
  have hb := book_of h0
  have hg : ∀ x ∈ l, goodName x.name = true := fun x hx => (hgood x hx).1
  have hlb := lb_le l n
  have hord := fun k hk => lb_order (k := k) hb hg hn hk
  have hhas := lb_has hb hg hn
  have hnl := goodName_len hn
  refine plain_vc (N := 49) (rv := [.tmp 6, .tmp 7]) tbok mixed Tryz.func150 rfl rfl rfl rfl rfl ?_
  (refine run ?_; repeat intro b)
  refine s_loopP (fun q : Nat × Nat => q.1 ≤ lbN l n ∧ lbN l n ≤ q.2 ∧ q.2 ≤ l.length) (fun q => ⟨[(0, .v (.slice p l.length c)), (1, .v (S n)), (2, .v (.func (.func 151) #[] #[])), (8, .v (i64 (l.length : Nat))), (9, .v (i64 (q.1 : Nat))), (10, .v (i64 (q.2 : Nat)))], F, [], 0⟩) (fun q => q.2 - q.1) (0, l.length) ⟨Nat.zero_le _, hlb, Nat.le_refl _⟩ (VS.keepN [0, 1, 2, 8, 9, 10] rfl rfl) ?_
  rintro ⟨i, j⟩ ⟨h1, h2, h3⟩
  dsimp only at h1 h2 h3 ⊢
  by_cases hlt : i < j
  · obtain ⟨k, hk⟩ : ∃ k, k = (i + j) / 2 := ⟨_, rfl⟩
    have hm := mid_val i j (by omega)
    rw [← hk] at hm
    have hkl : k < l.length := by omega
    obtain ⟨o1, o2⟩ := frow_agg entry_row (by decide) hf k hkl
    have wx := hw l[k] (List.getElem_mem hkl)
    have hok := hord k hkl
    generalize l[k] = x at o2 wx hok
    (refine run ?_; repeat intro b)
    refine s_if true (by rw [← decide_eq_true (p := ((i : Nat) : Int) < ((j : Nat) : Int)) (by omega)]; rfl) (fun _ => ?_) (fun h => by cases h)
    (refine run ?_; repeat intro b)
    rw [hm]
    refine s_pureO rfl rfl rfl ⟨by omega, by omega, frow_some hf (j := k * 2) (by rw [flat_len entry_row]; omega)⟩ ?_
    refine s_loadA x.row rfl rfl rfl rfl rfl (by rw [Int.toNat_natCast]; exact o1) (by rw [Int.toNat_natCast]; exact o2) ?_
    (refine run ?_; repeat intro b)
    refine s_plain _ rfl rfl rfl bd151 rfl (find1_ok x n wx (by omega) F) ?_
    (refine run ?_; repeat intro b)
    refine s_if (decide (k < lbN l n)) (congrArg (fun b => some (EV.v (.bool b))) hok) (fun h => ?_) (fun h => ?_)
    · have h := of_decide_eq_true h
      (refine run ?_; repeat intro b)
      rw [wrap_succ (by omega)]
      exact s_loopPn (k + 1, j) ⟨by simp only; omega, h2, h3⟩ (by simp only; omega) (VS.keepN [0, 1, 2, 8, 9, 10] rfl rfl)
    · have h := of_decide_eq_false h
      (refine run ?_; repeat intro b)
      exact s_loopPn (i, k) ⟨h1, by simp only; omega, by simp only; omega⟩ (by simp only; omega) (VS.keepN [0, 1, 2, 8, 9, 10] rfl rfl)
  · obtain rfl : i = j := by omega
    obtain rfl : i = lbN l n := by omega
    have hx : ∃ x : Entry, x.wf ∧ x = l.getD (lbN l n) ⟨[], []⟩ ∧ (lbN l n < l.length → (padd p (lbN l n * 2)).isSome = true ∧ ∀ i, i < 2 → Pcell F (padd (padd p (lbN l n * 2)) i) = x.row[i]?) := by
      by_cases h : lbN l n < l.length
      · obtain ⟨o1, o2⟩ := frow_agg entry_row (by decide) hf (lbN l n) h
        have e : l.getD (lbN l n) ⟨[], []⟩ = l[lbN l n] := by rw [List.getD_eq_getElem?_getD, List.getElem?_eq_getElem h]; rfl
        exact ⟨l[lbN l n], hw _ (List.getElem_mem h), e.symm, fun _ => ⟨o1, o2⟩⟩
      · refine ⟨⟨[], []⟩, ⟨Nat.zero_le _, Nat.zero_le _⟩, ?_, fun h' => absurd h' h⟩
        rw [List.getD_eq_getElem?_getD, List.getElem?_eq_none (by omega)]
        rfl
    obtain ⟨x, wx, hxe, hxg⟩ := hx
    rw [← hxe] at hhas
    have hdk : decide (((lbN l n : Nat) : Int) < ((l.length : Nat) : Int)) = true → lbN l n < l.length := fun h => by have := of_decide_eq_true h; omega
    generalize lbN l n = m at *
    (refine run ?_; repeat intro b)
    refine s_if false (by rw [← decide_eq_false (p := ((m : Nat) : Int) < ((m : Nat) : Int)) (by omega)]; rfl) (fun h => by cases h) (fun _ => ?_)
    (refine run ?_; repeat intro b)
    refine s_gpureO rfl rfl rfl rfl rfl (fun hg => ⟨by omega, by have := hdk hg.1; omega, frow_some hf (j := m * 2) (by rw [flat_len entry_row]; have := hdk hg.1; omega)⟩) ?_
    (refine run ?_; repeat intro b)
    refine s_gloadA x.row rfl rfl rfl rfl rfl rfl rfl (fun hg => by rw [Int.toNat_natCast]; exact hxg (hdk hg.1)) ?_
    (refine run ?_; repeat intro b)
    refine s_gplain _ rfl rfl rfl rfl bd151 rfl rfl (fun _ => find1_ok x n wx (by omega) F) ?_
    (refine run ?_; repeat intro b)
    rw [hhas]
    have e : decide (((m : Nat) : Int) < ((l.length : Nat) : Int)) = decide (m < l.length) := by rw [decide_eq_decide]; omega
    simp only [tupV, bpick_and, e]
theorem treefind_ok (l : List Entry) (n : List UInt8) (hl : l.length ≤ 4611686018427387904) (hw : ∀ x ∈ l, x.wf) (hn : n.length ≤ 4611686018427387904) {p : Option Addr} {c : Nat} {F : Hp} (hf : Frow F p (l.flatMap Entry.row)) : Plain Tryz.prog F 114 [.slice p l.length c, S n] (triple (i64 (findN l n : Nat)) (.bool (findB l n)) (i64 (findE l n))) := by
  refine plain_vc (N := 26) (rv := [.tmp 4, .tmp 5, .tmp 6]) tbok mixed Tryz.func114 rfl rfl rfl rfl rfl ?_
  (refine run ?_; repeat intro b)
  refine s_plain _ rfl rfl rfl bd82 rfl (treecheck_ok l hl hw hf) ?_
  (refine run ?_; repeat intro b)
  refine s_if (decide (bookFault l ≠ 0)) ?_ (fun h => ?_) (fun h => ?_)
  · refine congrArg (fun b => some (EV.v (.bool b))) ?_
    rw [Bool.eq_iff_iff]; simp
  · have h := of_decide_eq_true h
    have e : findE l n = bookFault l := by unfold findE; rw [if_pos h]
    have e2 : findN l n = 0 := by unfold findN; rw [e, if_neg h]
    have e3 : findB l n = false := by unfold findB; rw [e, decide_eq_false h]; rfl
    rw [e, e2, e3]
    (refine run ?_; repeat intro b)
    rfl
  · have h0 : bookFault l = 0 := by simpa using h
    have e : findE l n = if goodName n = true then 0 else 3 := by unfold findE; rw [if_neg (by simpa using h0)]
    (refine run ?_; repeat intro b)
    refine s_plain _ rfl rfl rfl bd129 rfl (name_ok n hn F) ?_
    cases hg : goodName n with
    | false =>
      rw [hg] at e
      have e1 : findE l n = 3 := e
      have e2 : findN l n = 0 := by unfold findN; rw [e1]; rfl
      have e3 : findB l n = false := by unfold findB; rw [e1]; rfl
      rw [e1, e2, e3]
      (refine run ?_; repeat intro b)
      rfl
    | true =>
      rw [hg] at e
      have e1 : findE l n = 0 := e
      have e2 : findN l n = lbN l n := by unfold findN; rw [e1]; rfl
      have e3 : findB l n = hasN l n := by unfold findB; rw [e1]; rfl
      rw [e1, e2, e3]
      (refine run ?_; repeat intro b)
      refine s_plain _ rfl rfl rfl bd150 rfl (bsearch_ok l n h0 hg hw hf) ?_
      (refine run ?_; repeat intro b)
      rfl
def getV (l : List Entry) (n : List UInt8) : List UInt8 := if findB l n = true then (l.getD (lbN l n) ⟨[], []⟩).value else []
theorem refstands_ok (l : List Entry) (n : List UInt8) (hl : l.length ≤ 4611686018427387904) {p : Option Addr} {c : Nat} {F : Hp} (hf : Frow F p (l.flatMap Entry.row)) : Plain Tryz.prog F 11 [.slice p l.length c, S n] (pair (S ((standsO l n).getD [])) (.bool (standsO l n).isSome)) := by
  refine plain_vc (N := 21) (rv := [.tmp 4, .tmp 5]) tbok mixed Tryz.func11 rfl rfl rfl rfl rfl ?_
  (refine run ?_; repeat intro b)
  refine s_loopP (fun k : Nat => k ≤ l.length ∧ standsO l n = standsO (l.drop k) n) (fun k => ⟨[(1, .v (S n)), (8, .v (.slice p l.length c)), (9, .v (i64 (l.length : Nat))), (10, .v (i64 (k : Nat)))], F, [], 0⟩) (fun k => l.length - k) 0 ⟨Nat.zero_le _, rfl⟩ (VS.keepN [1, 8, 9, 10] rfl rfl) ?_
  rintro k ⟨hk, hu⟩
  by_cases hlt : k < l.length
  · obtain ⟨o1, o2⟩ := frow_agg entry_row (by decide) hf k hlt
    have hst : standsO (l.drop k) n = if l[k].name = n then some l[k].value else standsO (l.drop (k + 1)) n := by
      rw [List.drop_eq_getElem_cons hlt]
      unfold standsO
      rw [List.find?_cons]
      by_cases h : l[k].name = n <;> simp [h]
    rw [hst] at hu
    generalize l[k] = x at o2 hu
    (refine run ?_; repeat intro b)
    refine s_if true (by rw [← decide_eq_true (p := ((k : Nat) : Int) < ((l.length : Nat) : Int)) (by omega)]; rfl) (fun _ => ?_) (fun h => by cases h)
    (refine run ?_; repeat intro b)
    refine s_pureO rfl rfl rfl ⟨by omega, by omega, frow_some hf (j := k * 2) (by rw [flat_len entry_row]; omega)⟩ ?_
    refine s_loadA x.row rfl rfl rfl rfl rfl (by rw [Int.toNat_natCast]; exact o1) (by rw [Int.toNat_natCast]; exact o2) ?_
    (refine run ?_; repeat intro b)
    refine s_if (decide (x.name = n)) rfl (fun h => ?_) (fun h => ?_)
    · rw [if_pos (of_decide_eq_true h)] at hu
      rw [hu]
      (refine run ?_; repeat intro b)
      rfl
    · rw [if_neg (of_decide_eq_false h)] at hu
      (refine run ?_; repeat intro b)
      rw [wrap_succ (by omega)]
      exact s_loopPc (k + 1) [0] [1, 8, 9, 10] ⟨hlt, hu⟩ (by omega) rfl rfl rfl rfl trivial rfl
  · have hge : k = l.length := by omega
    subst hge
    rw [List.drop_length] at hu
    rw [hu]
    (refine run ?_; repeat intro b)
    refine s_if false (by rw [← decide_eq_false (p := ((l.length : Nat) : Int) < ((l.length : Nat) : Int)) (by omega)]; rfl) (fun h => by cases h) (fun _ => ?_)
    (refine run ?_; repeat intro b)
    rfl
end Go.Proofs.YthkkgphjjmhglaaGreatDoor
