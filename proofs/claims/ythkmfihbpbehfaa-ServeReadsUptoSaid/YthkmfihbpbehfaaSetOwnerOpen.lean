/-
Two chains that fork, plainly.
-/
import Derived.Test.YthkmfihbpbehfaaChain3
import Derived.Test.YthkmfihbpbehfaaSetWireLaw
import Derived.Test.YthkmfihbpbehfaaSetIdx
import Derived.Test.YthkmfihbpbehfaaSetChain2
/-!
Two chains that fork, plainly.
-/
namespace Go.Proofs.Ythkmfihbpbehfaa
set_option linter.unusedVariables false
set_option linter.unusedSimpArgs false
open Go.TR
/-- The heads of one epoch of two chains. -/
def bothX (x : Head) (b : List Head) : List (Head × Head) := (b.filter fun y => decide (x.epoch = y.epoch)).map fun y => (x, y)
def bothP (a b : List Head) : List (Head × Head) := a.flatMap fun x => bothX x b
@[reducible] def row2 (q : Head × Head) : List Value := q.1.row ++ q.2.row
theorem row2_len (q : Head × Head) : (row2 q).length = 8 := rfl
theorem row2_one (l : List (Head × Head)) : ∀ x ∈ l.flatMap row2, one (.v x) = true := fun x hx => by
  obtain ⟨a, _, ha⟩ := List.mem_flatMap.1 hx
  rcases List.mem_append.1 ha with ha | ha
  · exact head_one [a.1] x (by simpa using ha)
  · exact head_one [a.2] x (by simpa using ha)
theorem bothP_take {a b : List Head} {i : Nat} (hi : i < a.length) : bothP (a.take (i + 1)) b = bothP (a.take i) b ++ bothX a[i] b := by
  unfold bothP
  rw [List.take_succ_eq_append_getElem hi, List.flatMap_append]
  simp
theorem bothX_take {x : Head} {b : List Head} {j : Nat} (hj : j < b.length) : bothX x (b.take (j + 1)) = bothX x (b.take j) ++ if x.epoch = b[j].epoch then [(x, b[j])] else [] := by
  unfold bothX
  rw [List.take_succ_eq_append_getElem hj, List.filter_append, List.map_append]
  congr 1
  by_cases h : x.epoch = b[j].epoch <;> simp [h]
theorem bothX_len (x : Head) (b : List Head) : (bothX x b).length ≤ b.length := by
  unfold bothX
  rw [List.length_map]
  exact List.length_filter_le _ _
theorem bothP_len (a b : List Head) : (bothP a b).length ≤ a.length * b.length := by
  induction a with
  | nil => simp [bothP]
  | cons x a ih =>
    unfold bothP at ih ⊢
    rw [List.flatMap_cons, List.length_append, List.length_cons, Nat.add_mul, Nat.one_mul]
    have := bothX_len x b
    omega
theorem unl_tail {a : Head} {t : List Head} {i : Nat} (h : unl (a :: t) i = none) : ∃ j, unl t j = none := by
  match t with
  | [] => exact ⟨0, rfl⟩
  | b :: t =>
    unfold unl at h
    split at h
    · exact ⟨_, h⟩
    · cases h
theorem unl_rise {a : Head} {t : List Head} {i : Nat} (h : unl (a :: t) i = none) : ∀ y ∈ t, a.epoch < y.epoch := fun y hy => by
  obtain ⟨k, hk, rfl⟩ := List.mem_iff_getElem.1 hy
  have := unl_epoch h (k + 1) (by simpa using hk)
  simp only [List.getElem_cons_succ, List.getElem_cons_zero] at this
  omega
/-- In a chain there is one head of an epoch, at most. -/
theorem filter_epoch : ∀ {l : List Head} {i : Nat} (n : Int), unl l i = none → (l.filter fun y => decide (n = y.epoch)) = (headOfE l n).toList
  | [], _, _, _ => rfl
  | a :: t, i, n, h => by
    obtain ⟨j, hj⟩ := unl_tail h
    have hr := unl_rise h
    have ih := filter_epoch n hj
    unfold headOfE at ih ⊢
    by_cases hn : a.epoch = n
    · have : (t.filter fun y => decide (n = y.epoch)) = [] := by
        rw [List.filter_eq_nil_iff]
        intro y hy
        have := hr y hy
        simp only [decide_eq_true_eq]
        omega
      rw [List.filter_cons_of_pos (by simp [hn]), List.find?_cons_of_pos (by simp [hn]), this]
      rfl
    · rw [List.filter_cons_of_neg (by simp; omega), List.find?_cons_of_neg (by simp [hn]), ih]
theorem bothX_chain {x : Head} {b : List Head} {i : Nat} (h : unl b i = none) : bothX x b = (headOfE b x.epoch).toList.map fun y => (x, y) := by
  unfold bothX
  rw [filter_epoch _ h]
def forkP (a b : List Head) : Option (Head × Head) := (bothP a b).find? fun q => decide (q.1 ≠ q.2)
def forkE (a b : List Head) : Int := if (chainF a).1 ≠ 0 then (chainF a).1 else if (chainF b).1 ≠ 0 then (chainF b).1 else if (bothP a b).length = 0 then 5 else 0
def forkN (a b : List Head) : Int := if forkE a b ≠ 0 then 0 else match forkP a b with
  | some q => q.1.epoch
  | none => -1
/-- The first head of the one that is unlike the other's of its epoch. -/
def hitY (b : List Head) : List Head → Option Int
  | [] => none
  | y :: t => match headOfE b y.epoch with
    | some z => if y ≠ z then some y.epoch else hitY b t
    | none => hitY b t
theorem hitY_fork {b : List Head} {i : Nat} (hb : unl b i = none) : ∀ a : List Head, hitY b a = (forkP a b).map fun q => q.1.epoch
  | [] => rfl
  | y :: t => by
    have ih := hitY_fork hb t
    unfold forkP bothP at ih ⊢
    rw [List.flatMap_cons, List.find?_append, bothX_chain hb]
    unfold hitY
    cases h : headOfE b y.epoch with
    | none => simpa using ih
    | some z =>
      simp only [Option.toList_some, List.map_cons, List.map_nil]
      by_cases hz : y = z
      · subst hz
        simp [ih]
      · simp [hz]
/-- The first two chains that fork. -/
def findK (a : List Head) : List (List Head) → Nat → Option (Nat × Int)
  | [], _ => none
  | b :: t, k => match hitY b a with
    | some n => some (k, n)
    | none => findK a t (k + 1)
def findI : List (List Head) → Nat → Option (Nat × Nat × Int)
  | [], _ => none
  | a :: t, i => match findK a t (i + 1) with
    | some (k, n) => some (i, k, n)
    | none => findI t (i + 1)
theorem findK_drop {a : List Head} {l : List (List Head)} {k : Nat} (hk : k < l.length) : findK a (l.drop k) k = match hitY l[k] a with
    | some n => some (k, n)
    | none => findK a (l.drop (k + 1)) (k + 1) := by
  rw [List.drop_eq_getElem_cons hk]
  rfl
theorem findI_drop {l : List (List Head)} {i : Nat} (hi : i < l.length) : findI (l.drop i) i = match findK l[i] (l.drop (i + 1)) (i + 1) with
    | some (k, n) => some (i, k, n)
    | none => findI (l.drop (i + 1)) (i + 1) := by
  rw [List.drop_eq_getElem_cons hi]
  rfl
end Go.Proofs.Ythkmfihbpbehfaa
/-!
Owners, plainly.
-/
namespace Go.Proofs.Ythkmfihbpbehfaa
set_option linter.unusedVariables false
set_option linter.unusedSimpArgs false
open Go.TR
structure Ow where
  name : List UInt8
  key : Nat
  head : Head
  wanted : List (List UInt8)
  had : Int
structure Ow.wf (o : Ow) : Prop where
  name : o.name.length ≤ 4611686018427387904
  key : o.key < 18446744073709551616
  head : o.head.wf
  wanted : o.wanted.length * 16 ≤ 140737488355328
  each : ∀ s ∈ o.wanted, s.length ≤ 4611686018427387904
  had : -9223372036854775808 ≤ o.had ∧ o.had ≤ 9223372036854775807
/-- An owner whose wishes lie at p. -/
@[reducible] def Ow.v (o : Ow) (p : Option Addr) (c : Nat) : Value := .agg #[S o.name, u64 (o.key : Nat), i64 o.head.epoch, u64 (o.head.root : Nat), u64 (o.head.prev : Nat), i64 o.head.at_, .slice p o.wanted.length c, i64 o.had]
def Ow.none : Ow := ⟨[], 0, Head.none, [], 0⟩
def longB (s : List UInt8) : Bool := decide (20 < s.length)
def ownF (o : Ow) : Int := if goodName o.name = true then (if o.head.fault ≠ 0 then o.head.fault else if 30 < o.wanted.length ∨ o.wanted.any longB = true then 2 else if o.had < 0 ∨ (o.wanted.length : Int) < o.had then 4 else 0) else 3
theorem ownF_zero {o : Ow} (h : ownF o = 0) : goodName o.name = true ∧ o.head.fault = 0 ∧ o.wanted.length ≤ 30 ∧ o.wanted.any longB = false ∧ 0 ≤ o.had ∧ o.had ≤ o.wanted.length := by
  unfold ownF at h
  split at h
  · rename_i h1
    split at h
    · rename_i h2; exact absurd h h2
    · rename_i h2
      split at h
      · cases h
      · rename_i h3
        split at h
        · cases h
        · rename_i h4
          rw [not_or] at h3 h4
          exact ⟨h1, by omega, by omega, by simpa using h3.2, by omega, by omega⟩
  · cases h
theorem ownF_cases (o : Ow) : ownF o = 0 ∨ ownF o = 2 ∨ ownF o = 3 ∨ ownF o = 4 := by
  unfold ownF
  split
  · split
    · have : o.head.fault = 4 ∨ o.head.fault = 3 ∨ o.head.fault = 0 := by
        unfold Head.fault
        split
        · exact .inl rfl
        · split
          · exact .inr (.inl rfl)
          · exact .inr (.inr rfl)
      rcases this with h | h | h <;> simp [h]
    · split
      · simp
      · split <;> simp
  · simp
/-- Heads that come: what is wrong with them. -/
def linkK (h : Head) (l : List Head) : Int :=
  if (chainF l).1 ≠ 0 then 2
  else if h.epoch + 1 < (orN l.head?).epoch then 2
  else if (orN l.head?).epoch = h.epoch + 1 ∧ links h (orN l.head?) = false then 2
  else if (l.any fun x => decide (x.epoch = h.epoch) && decide (x ≠ h)) = true then 3
  else if (lastH l).epoch ≤ h.epoch then 1 else 0
theorem linkK_cases (h : Head) (l : List Head) : linkK h l = 0 ∨ linkK h l = 1 ∨ linkK h l = 2 ∨ linkK h l = 3 := by
  unfold linkK
  split
  · simp
  · split
    · simp
    · split
      · simp
      · split
        · simp
        · split <;> simp
/-- In a chain: is there an unlike head of that epoch? -/
theorem any_headOf {l : List Head} {i : Nat} (hu : unl l i = Option.none) (h : Head) : (l.any fun x => decide (x.epoch = h.epoch) && decide (x ≠ h)) = ((headOfE l h.epoch).isSome && decide (orN (headOfE l h.epoch) ≠ h)) := by
  have hf := filter_epoch h.epoch hu
  have e1 : (l.any fun x => decide (x.epoch = h.epoch) && decide (x ≠ h)) = (l.filter fun y => decide (h.epoch = y.epoch)).any fun x => decide (x ≠ h) := by
    rw [List.any_filter]
    congr 1
    funext x
    congr 1
    rw [Bool.eq_iff_iff, decide_eq_true_eq, decide_eq_true_eq]
    exact eq_comm
  rw [e1, hf]
  cases headOfE l h.epoch with
  | none => rfl
  | some z => by_cases hz : z = h <;> simp [orN, hz]
/-- The first wish that is had, from number k on: its number and one more; or nothing. -/
def jdg (v : List UInt8) (had : Int) : List (List UInt8) → Nat → Nat
  | [], _ => 0
  | w :: t, k => if had ≤ (k : Int) + 1 ∧ w = v then k + 1 else jdg v had t (k + 1)
theorem jdg_drop {v : List UInt8} {had : Int} {l : List (List UInt8)} {k : Nat} (hk : k < l.length) : jdg v had (l.drop k) k = if had ≤ (k : Int) + 1 ∧ l[k] = v then k + 1 else jdg v had (l.drop (k + 1)) (k + 1) := by
  rw [List.drop_eq_getElem_cons hk]
  rfl
theorem jdg_past {v : List UInt8} {had : Int} : ∀ (l : List (List UInt8)) (k : Nat), had ≤ (k : Int) + 1 → jdg v had l k = if (l.any fun w => decide (w = v)) = true then k + l.findIdx (fun w => decide (w = v)) + 1 else 0
  | [], k, _ => rfl
  | w :: t, k, h => by
    unfold jdg
    by_cases hw : w = v
    · rw [if_pos ⟨h, hw⟩]
      simp [hw, List.findIdx_cons]
    · rw [if_neg (fun hh => hw hh.2), jdg_past t (k + 1) (by omega)]
      simp only [List.any_cons, hw, decide_false, Bool.false_or, List.findIdx_cons, cond_false]
      split
      · omega
      · rfl
theorem jdg_from {v : List UInt8} {had : Int} : ∀ (l : List (List UInt8)) (k n : Nat), (k : Int) + n + 1 = had → jdg v had l k = jdg v had (l.drop n) (k + n)
  | l, k, 0, _ => by simp
  | [], k, n + 1, _ => by simp [jdg]
  | w :: t, k, n + 1, h => by
    have ih := jdg_from (v := v) (had := had) t (k + 1) n (by omega)
    rw [List.drop_succ_cons]
    show (if had ≤ (k : Int) + 1 ∧ w = v then k + 1 else jdg v had t (k + 1)) = _
    rw [if_neg (fun hh => by have := hh.1; omega), ih, show k + 1 + n = k + (n + 1) by omega]
/-- The wish that is had: as the program looks for it. -/
theorem jdg_idx {v : List UInt8} {had : Int} {l : List (List UInt8)} {n : Nat} (h0 : 0 ≤ had) (hn : (n : Int) = if had - 1 < 0 then 0 else had - 1) :
    ((jdg v had l 0 : Nat) : Int) = if idxP (fun w => decide (w = v)) (l.drop n) < 0 then 0 else (n : Int) + idxP (fun w => decide (w = v)) (l.drop n) + 1 := by
  have e1 : jdg v had l 0 = jdg v had (l.drop n) n := by
    by_cases h1 : had = 0
    · have : n = 0 := by split at hn <;> omega
      subst this
      simp
    · have := jdg_from (v := v) (had := had) l 0 n (by split at hn <;> omega)
      rw [this, Nat.zero_add]
  rw [e1, jdg_past _ _ (by split at hn <;> omega)]
  unfold idxP
  by_cases ha : ((l.drop n).any fun w => decide (w = v)) = true
  · rw [if_pos ha, if_pos ha, if_neg (by omega)]
    omega
  · rw [if_neg ha, if_neg ha, if_pos (by omega)]
    rfl
/-- The verdict, and how many were had. -/
def verdK (o : Ow) (l : List Head) (h : Head) (p : Prf) : Int :=
  if linkK o.head l ≠ 0 then linkK o.head l
  else if replyF h p ≠ 0 ∨ h ≠ lastH l ∨ p.name ≠ o.name then 4
  else match standsO p.ents p.name with
    | Option.none => if 0 < o.had then 5 else 0
    | some v => if jdg v o.had o.wanted 0 = 0 then 6 else 0
def verdN (o : Ow) (l : List Head) (h : Head) (p : Prf) : Nat :=
  if linkK o.head l ≠ 0 then 0
  else if replyF h p ≠ 0 ∨ h ≠ lastH l ∨ p.name ≠ o.name then 0
  else match standsO p.ents p.name with
    | Option.none => 0
    | some v => jdg v o.had o.wanted 0
end Go.Proofs.Ythkmfihbpbehfaa
/-!
Owners and replies that came in.
-/
namespace Go.Proofs.Ythkmfihbpbehfaa
set_option linter.unusedVariables false
set_option linter.unusedSimpArgs false
open Go.ChangeShapes Go.WideShapes Go.ChangeAt Go.RowKit
open Go.TR (S mkB bl Hp Pcell Fcell padd Frow)
set_option maxRecDepth 100000
def RRep : Rep := fun F cs => ∃ (h : Head) (p : Prf) (a : Lay), cs = [i64 h.epoch, u64 (h.root : Nat), u64 (h.prev : Nat), i64 h.at_, S p.name, .slice a.e p.ents.length a.ce, .slice a.s p.sides.length a.cs] ∧ h.wf ∧ p.wf ∧ p.at F a
theorem opn_rep : Opn Try.prog 34 RRep := by
  refine (opn_struct (Rs := [RHead, RProof]) Try.underlying34 ⟨rfl, opn_head, (by kernel_rfl), opn_proof, (by show Try.prog.cellsOf 34 = _; kernel_rfl)⟩).mono ?_
  rintro F cs ⟨_, _, rfl, ⟨h, rfl, hw⟩, _, _, rfl, ⟨p, a, rfl, h1, h2, h3, h4, h5, h6⟩, rfl⟩
  exact ⟨h, p, a, rfl, hw, h1, h6⟩
def ROwner : Rep := fun F cs => ∃ (o : Ow) (p : Option Addr) (c : Nat), cs = [S o.name, u64 (o.key : Nat), i64 o.head.epoch, u64 (o.head.root : Nat), u64 (o.head.prev : Nat), i64 o.head.at_, .slice p o.wanted.length c, i64 o.had] ∧ o.wf ∧ o.wanted.length ≤ c ∧ Frow F p (o.wanted.map S)
section
variable {H : Type} {enc : TypeId × Value → H} {W : World} {b0 base : Nat} {spare : Nat → Bool} {held : Bool} {r : Reach} {v : Value} {d : DataW H} {ps : List MemPlace} {ts : List TypeId} {ds : List (DataW H)} {j : Nat}
theorem open_rep (hsz : (DataW.weightsEach Try.prog ts ds).all (· ≤ reachBytes) = true) (ht : ts[j]? = some 34) (hd : ds[j]? = some d) (hv : Value.okWide Try.prog W r b0 34 v) (h : DataW.Trod enc Try.prog W base spare held 34 v d ps) :
    ∃ (h : Head) (p : Prf) (a : Lay), v = .agg #[i64 h.epoch, u64 (h.root : Nat), u64 (h.prev : Nat), i64 h.at_, S p.name, .slice a.e p.ents.length a.ce, .slice a.s p.sides.length a.cs] ∧ h.wf ∧ p.wf ∧ p.at (fun k => W.heap[k]?) a := by
  obtain ⟨cs, rfl, x, p, a, rfl, h1, h2, h3⟩ := arg_st Try.underlying34 opn_rep hsz ht hd hv h
  exact ⟨x, p, a, rfl, h1, h2, h3⟩
end
end Go.Proofs.Ythkmfihbpbehfaa
