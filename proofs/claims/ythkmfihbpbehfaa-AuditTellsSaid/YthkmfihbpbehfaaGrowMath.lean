/-
How the first texts of a roll came to be all, plainly.
-/
import Derived.Test.YthkmfihbpbehfaaRollMade
namespace Go.Proofs.Ythkmfihbpbehfaa
set_option linter.unusedVariables false
set_option linter.unusedSimpArgs false
open Go.TR
/-- The turns of the way to where the old ones end, from the top down: is the stretch beside it new? -/
def gturns : Nat → Nat → Nat → List Bool
  | 0, _, _ => []
  | f + 1, n, m => if n ≤ m then [] else if m ≤ half n then true :: gturns f (half n) m else false :: gturns f (n - half n) (m - half n)
theorem gturns_fuel : ∀ (f g n m : Nat), n ≤ f → n ≤ g → 1 ≤ m → gturns f n m = gturns g n m
  | 0, 0, _, _, _, _, _ => rfl
  | 0, g + 1, n, m, h, _, _ => by simp only [gturns]; rw [if_pos (by omega)]
  | f + 1, 0, n, m, _, h, _ => by simp only [gturns]; rw [if_pos (by omega)]
  | f + 1, g + 1, n, m, h1, h2, h3 => by
    simp only [gturns]
    by_cases h : n ≤ m
    · rw [if_pos h, if_pos h]
    · have hr := half_range (n := n) (by omega)
      rw [if_neg h, if_neg h]
      by_cases hm : m ≤ half n
      · rw [if_pos hm, if_pos hm, gturns_fuel f g _ _ (by omega) (by omega) h3]
      · rw [if_neg hm, if_neg hm, gturns_fuel f g (n - half n) _ (by omega) (by omega) (by omega)]
theorem gturns_len : ∀ (f n m : Nat), (gturns f n m).length ≤ f
  | 0, _, _ => Nat.le_refl _
  | f + 1, n, m => by
    simp only [gturns]
    split
    · simp
    · split
      · have := gturns_len f (half n) m; simp only [List.length_cons]; omega
      · have := gturns_len f (n - half n) (m - half n); simp only [List.length_cons]; omega
theorem gturns_go {f n m : Nat} (h1 : m < n) (hf : n ≤ f) (hm : 1 ≤ m) : gturns f n m = if m ≤ half n then true :: gturns f (half n) m else false :: gturns f (n - half n) (m - half n) := by
  have hr := half_range (n := n) (by omega)
  obtain ⟨g, rfl⟩ : ∃ g, f = g + 1 := ⟨f - 1, by omega⟩
  simp only [gturns]
  rw [if_neg (by omega)]
  by_cases h : m ≤ half n
  · rw [if_pos h, if_pos h, gturns_fuel g (g + 1) _ _ (by omega) (by omega) hm]; simp only [gturns]
  · rw [if_neg h, if_neg h, gturns_fuel g (g + 1) (n - half n) _ (by omega) (by omega) (by omega)]; simp only [gturns]
theorem gturns_stop {f n m : Nat} (h1 : ¬ m < n) : gturns f n m = [] := by
  cases f with
  | zero => rfl
  | succ f => simp only [gturns]; rw [if_pos (by omega)]
def allB (l : List Bool) : Bool := l.all fun b => b
theorem allB_append (l r : List Bool) : allB (l ++ r) = (allB l && allB r) := by unfold allB; rw [List.all_append]
/-- Marks for both roots, from the deepest one up. -/
def grewF : Nat → List (List UInt8) → Nat → Bool → List Nat
  | 0, _, _, _ => []
  | f + 1, l, m, w => if l.length ≤ m then (if w = true then [] else [rootN l]) else if m ≤ half l.length then grewF f (l.take (half l.length)) m w ++ [rootN (l.drop (half l.length))] else grewF f (l.drop (half l.length)) (m - half l.length) false ++ [rootN (l.take (half l.length))]
theorem grewF_fuel : ∀ (f g : Nat) (l : List (List UInt8)) (m : Nat) (w : Bool), l.length ≤ f → l.length ≤ g → 1 ≤ m → 1 ≤ l.length → grewF f l m w = grewF g l m w
  | 0, g, l, m, w, h, _, _, h1 => by omega
  | f + 1, 0, l, m, w, _, h, _, h1 => by omega
  | f + 1, g + 1, l, m, w, h1, h2, h3, h4 => by
    simp only [grewF]
    by_cases h : l.length ≤ m
    · rw [if_pos h, if_pos h]
    · have hr := half_range (n := l.length) (by omega)
      rw [if_neg h, if_neg h]
      by_cases hm : m ≤ half l.length
      · rw [if_pos hm, if_pos hm, grewF_fuel f g _ _ _ (by rw [List.length_take]; omega) (by rw [List.length_take]; omega) h3 (by rw [List.length_take]; omega)]
      · rw [if_neg hm, if_neg hm, grewF_fuel f g (l.drop (half l.length)) _ _ (by rw [List.length_drop]; omega) (by rw [List.length_drop]; omega) (by omega) (by rw [List.length_drop]; omega)]
def grewN (l : List (List UInt8)) (m : Nat) (w : Bool) : List Nat := grewF l.length l m w
theorem grewN_end {l : List (List UInt8)} {m : Nat} {w : Bool} (h : l.length ≤ m) (h1 : 1 ≤ l.length) : grewN l m w = if w = true then [] else [rootN l] := by
  unfold grewN
  obtain ⟨n, hn⟩ : ∃ n, l.length = n + 1 := ⟨l.length - 1, by omega⟩
  rw [hn]
  simp only [grewF]
  rw [if_pos h]
theorem grewN_left {l : List (List UInt8)} {m : Nat} {w : Bool} (h : m < l.length) (h1 : 1 ≤ m) (hm : m ≤ half l.length) : grewN l m w = grewN (l.take (half l.length)) m w ++ [rootN (l.drop (half l.length))] := by
  have hr := half_range (n := l.length) (by omega)
  obtain ⟨n, hn⟩ : ∃ n, l.length = n + 1 := ⟨l.length - 1, by omega⟩
  have e : grewN l m w = grewF (n + 1) l m w := by unfold grewN; rw [hn]
  rw [e]
  simp only [grewF]
  rw [if_neg (by omega), if_pos hm]
  unfold grewN
  rw [grewF_fuel n _ _ _ _ (by rw [List.length_take]; omega) (Nat.le_refl _) h1 (by rw [List.length_take]; omega)]
theorem grewN_right {l : List (List UInt8)} {m : Nat} {w : Bool} (h : m < l.length) (h1 : 1 ≤ m) (hm : ¬ m ≤ half l.length) : grewN l m w = grewN (l.drop (half l.length)) (m - half l.length) false ++ [rootN (l.take (half l.length))] := by
  have hr := half_range (n := l.length) (by omega)
  obtain ⟨n, hn⟩ : ∃ n, l.length = n + 1 := ⟨l.length - 1, by omega⟩
  have e : grewN l m w = grewF (n + 1) l m w := by unfold grewN; rw [hn]
  rw [e]
  simp only [grewF]
  rw [if_neg (by omega), if_neg hm]
  unfold grewN
  rw [grewF_fuel n _ _ _ _ (by rw [List.length_drop]; omega) (Nat.le_refl _) (by omega) (by rw [List.length_drop]; omega)]
theorem grewF_len : ∀ (f : Nat) (l : List (List UInt8)) (m : Nat) (w : Bool), (grewF f l m w).length ≤ f
  | 0, _, _, _ => Nat.le_refl _
  | f + 1, l, m, w => by
    simp only [grewF]
    split
    · split <;> simp
    · split
      · have := grewF_len f (l.take (half l.length)) m w
        simp only [List.length_append, List.length_cons, List.length_nil]; omega
      · have := grewF_len f (l.drop (half l.length)) (m - half l.length) false
        simp only [List.length_append, List.length_cons, List.length_nil]; omega
theorem grewN_len {l : List (List UInt8)} (m : Nat) (w : Bool) : (grewN l m w).length ≤ l.length := grewF_len _ _ _ _
/-- Both marks that are made of a proof. -/
def bothF : Nat → Nat → Nat → Nat → Bool → List Nat → Nat × Nat × Bool
  | 0, _, _, _, _, _ => (0, 0, false)
  | f + 1, a, m, n, w, p => if m = n then (if w = true then (a, a, decide (p.length = 0)) else match p with
      | [x] => (x, x, true)
      | _ => (0, 0, false)) else match p.getLast? with
    | none => (0, 0, false)
    | some x => if m ≤ half n then ((bothF f a m (half n) w p.dropLast).1, twoN (bothF f a m (half n) w p.dropLast).2.1 x, (bothF f a m (half n) w p.dropLast).2.2)
      else (twoN x (bothF f a (m - half n) (n - half n) false p.dropLast).1, twoN x (bothF f a (m - half n) (n - half n) false p.dropLast).2.1, (bothF f a (m - half n) (n - half n) false p.dropLast).2.2)
def stepG (q : Nat × Nat) (x : Nat × Bool) : Nat × Nat := if x.2 = true then (q.1, twoN q.2 x.1) else (twoN x.1 q.1, twoN x.1 q.2)
def foldG (q : Nat × Nat) (l : List (Nat × Bool)) : Nat × Nat := l.foldl stepG q
theorem foldG_snoc (q : Nat × Nat) (l : List (Nat × Bool)) (x : Nat × Bool) : foldG q (l ++ [x]) = stepG (foldG q l) x := by
  unfold foldG
  rw [List.foldl_append, List.foldl_cons, List.foldl_nil]
/-- Where a proof's marks begin, and what is left of them. -/
def startG (a : Nat) (W : Bool) (p : List Nat) : Nat × Nat := if W = true then (a, a) else (p.headD 0, p.headD 0)
def restG (W : Bool) (p : List Nat) : List Nat := if W = true then p else p.tail
def okG (W : Bool) (p : List Nat) (k : Nat) : Prop := if W = true then p.length = k else p.length = k + 1
theorem okG_snoc {W : Bool} {q : List Nat} {x k : Nat} : okG W (q ++ [x]) (k + 1) ↔ okG W q k := by
  unfold okG
  cases W <;> simp
theorem restG_snoc {W : Bool} {q : List Nat} {x k : Nat} (h : okG W q k) : restG W (q ++ [x]) = restG W q ++ [x] ∧ (restG W q).length = k ∧ ∀ a, startG a W (q ++ [x]) = startG a W q := by
  unfold okG at h
  unfold restG startG
  cases W with
  | true => exact ⟨rfl, by simpa using h, fun _ => rfl⟩
  | false =>
    simp only [Bool.false_eq_true, if_false] at h ⊢
    cases q with
    | nil => simp at h
    | cons y q => exact ⟨rfl, by simpa using h, fun _ => rfl⟩
theorem bothF_fold : ∀ (f a m n : Nat) (w : Bool) (p : List Nat), 1 ≤ m → m ≤ n → n ≤ f → ((bothF f a m n w p).2.2 = true ↔ okG (w && allB (gturns f n m)) p (gturns f n m).length) ∧
    ((bothF f a m n w p).2.2 = true → ((bothF f a m n w p).1, (bothF f a m n w p).2.1) = foldG (startG a (w && allB (gturns f n m)) p) ((restG (w && allB (gturns f n m)) p).zip (gturns f n m).reverse))
  | 0, a, m, n, w, p, h1, h2, h3 => by omega
  | f + 1, a, m, n, w, p, h1, h2, h3 => by
    by_cases hn : m = n
    · subst hn
      have ht : gturns (f + 1) m m = [] := gturns_stop (by omega)
      rw [ht]
      simp only [bothF, if_true]
      cases w with
      | true =>
        simp only [if_true]
        refine ⟨by simp [okG, allB], fun h => ?_⟩
        have : p = [] := List.eq_nil_of_length_eq_zero (by simpa using h)
        subst this
        rfl
      | false =>
        simp only [Bool.false_eq_true, if_false]
        match p with
        | [] => exact ⟨by simp [okG, allB], fun h => by cases h⟩
        | [x] => exact ⟨by simp [okG, allB], fun _ => rfl⟩
        | x :: y :: t => exact ⟨by simp [okG, allB], fun h => by cases h⟩
    · have hr := half_range (n := n) (by omega)
      have hgo := gturns_go (f := f + 1) (n := n) (m := m) (by omega) h3 h1
      simp only [bothF]
      rw [if_neg hn]
      rcases List.eq_nil_or_concat p with rfl | ⟨q, x, rfl⟩
      · simp only [List.getLast?_nil]
        refine ⟨?_, fun h => by cases h⟩
        rw [hgo]
        split <;> (unfold okG; split <;> simp)
      · rw [List.concat_eq_append, List.getLast?_append]
        simp only [List.getLast?_singleton, Option.some_or, List.dropLast_concat]
        by_cases hm : m ≤ half n
        · obtain ⟨g1, g2⟩ := bothF_fold f a m (half n) w q h1 (by omega) (by omega)
          rw [if_pos hm] at hgo
          simp only [if_pos hm]
          have hfu : gturns (f + 1) (half n) m = gturns f (half n) m := gturns_fuel _ _ _ _ (by omega) (by omega) h1
          rw [hfu] at hgo
          have hW : (w && allB (gturns (f + 1) n m)) = (w && allB (gturns f (half n) m)) := by rw [hgo]; rfl
          rw [hW, hgo]
          generalize gturns f (half n) m = ts at *
          refine ⟨by rw [g1, List.length_cons, okG_snoc], fun h => ?_⟩
          have hok := g1.1 h
          have g3 := g2 h
          obtain ⟨r1, r2, r3⟩ := restG_snoc (x := x) hok
          rw [r3, r1, List.reverse_cons, List.zip_append (by rw [List.length_reverse]; exact r2)]
          simp only [List.zip_cons_cons, List.zip_nil_left]
          rw [foldG_snoc, ← g3]
          rfl
        · obtain ⟨g1, g2⟩ := bothF_fold f a (m - half n) (n - half n) false q (by omega) (by omega) (by omega)
          rw [if_neg hm] at hgo
          simp only [if_neg hm]
          have hfu : gturns (f + 1) (n - half n) (m - half n) = gturns f (n - half n) (m - half n) := gturns_fuel _ _ _ _ (by omega) (by omega) (by omega)
          rw [hfu] at hgo
          have hW : (w && allB (gturns (f + 1) n m)) = (false && allB (gturns f (n - half n) (m - half n))) := by rw [hgo]; simp [allB]
          rw [hW, hgo]
          generalize gturns f (n - half n) (m - half n) = ts at *
          refine ⟨by rw [g1, List.length_cons, okG_snoc], fun h => ?_⟩
          have hok := g1.1 h
          have g3 := g2 h
          obtain ⟨r1, r2, r3⟩ := restG_snoc (x := x) hok
          rw [r3, r1, List.reverse_cons, List.zip_append (by rw [List.length_reverse]; exact r2)]
          simp only [List.zip_cons_cons, List.zip_nil_left]
          rw [foldG_snoc, ← g3]
          rfl
theorem bothF_lt : ∀ (f a m n : Nat) (w : Bool) (p : List Nat), a < 18446744073709551616 → (∀ x ∈ p, x < 18446744073709551616) → (bothF f a m n w p).1 < 18446744073709551616 ∧ (bothF f a m n w p).2.1 < 18446744073709551616
  | 0, a, m, n, w, p, _, _ => ⟨by simp [bothF], by simp [bothF]⟩
  | f + 1, a, m, n, w, p, ha, hx => by
    have h0 : (0 : Nat) < 18446744073709551616 := by decide
    simp only [bothF]
    split
    · split
      · exact ⟨ha, ha⟩
      · split
        · rename_i x; exact ⟨hx x (by simp), hx x (by simp)⟩
        · exact ⟨h0, h0⟩
    · split
      · exact ⟨h0, h0⟩
      · have hd : ∀ x ∈ p.dropLast, x < 18446744073709551616 := fun x h => hx x (List.dropLast_subset p h)
        split
        · exact ⟨(bothF_lt f a m (half n) w p.dropLast ha hd).1, MM_u64 (twoN_lt _ _)⟩
        · exact ⟨MM_u64 (twoN_lt _ _), MM_u64 (twoN_lt _ _)⟩
end Go.Proofs.Ythkmfihbpbehfaa
