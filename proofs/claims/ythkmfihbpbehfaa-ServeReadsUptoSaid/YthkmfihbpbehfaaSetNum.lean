/-
The way to a name, and the order of names, plainly.
-/
import Derived.Test.YthkmfihbpbehfaaSetBits
import Derived.Test.YthkmfihbpbehfaaSetMark2
/-!
The way to a name, and the order of names, plainly.
-/
namespace Go.Proofs.Ythkmfihbpbehfaa
set_option linter.unusedVariables false
set_option linter.unusedSimpArgs false
open Go.TR
open Go.Op (bytesLess)
theorem bl_irr : ∀ a : List UInt8, bytesLess a a = false
  | [] => rfl
  | a :: x => by
    unfold bytesLess
    rw [bl_irr x]
    simp
theorem bl_asym : ∀ a b : List UInt8, bytesLess a b = true → bytesLess b a = false
  | [], [], h => by cases h
  | [], _ :: _, _ => rfl
  | _ :: _, [], h => by cases h
  | a :: x, b :: y, h => by
    unfold bytesLess at h ⊢
    simp only [Bool.or_eq_true, decide_eq_true_eq, Bool.and_eq_true, beq_iff_eq] at h
    rcases h with h | ⟨rfl, h⟩
    · have h1 : ¬ b < a := fun h2 => absurd (UInt8.lt_trans h h2) (UInt8.lt_irrefl a)
      have h2 : b ≠ a := fun e => by subst e; exact absurd h (UInt8.lt_irrefl _)
      simp [h1, h2]
    · simp [bl_asym x y h]
theorem bl_tri : ∀ a b : List UInt8, bytesLess a b = false → a ≠ b → bytesLess b a = true
  | [], [], _, h => absurd rfl h
  | [], _ :: _, h, _ => by cases h
  | _ :: _, [], _, _ => rfl
  | a :: x, b :: y, h, hn => by
    unfold bytesLess at h ⊢
    simp only [Bool.or_eq_false_iff, decide_eq_false_iff_not, Bool.and_eq_false_iff, beq_eq_false_iff_ne] at h
    obtain ⟨h1, h2⟩ := h
    by_cases hab : a = b
    · subst hab
      have h3 : bytesLess x y = false := by
        rcases h2 with h2 | h2
        · exact absurd rfl h2
        · exact h2
      have : x ≠ y := fun e => hn (by rw [e])
      simp [bl_tri x y h3 this]
    · have : b < a := by
        rcases UInt8.lt_or_lt_of_ne hab with h | h
        · exact absurd h h1
        · exact h
      simp [this]
theorem bl_trans : ∀ a b c : List UInt8, bytesLess a b = true → bytesLess b c = true → bytesLess a c = true
  | [], [], _, h, _ => by cases h
  | _ :: _, [], _, h, _ => by cases h
  | _, _ :: _, [], _, h => by cases h
  | [], _ :: _, _ :: _, _, _ => rfl
  | a :: x, b :: y, c :: z, h, k => by
    unfold bytesLess at h k ⊢
    simp only [Bool.or_eq_true, decide_eq_true_eq, Bool.and_eq_true, beq_iff_eq] at h k ⊢
    rcases h with h | ⟨rfl, h⟩
    · rcases k with k | ⟨rfl, k⟩
      · exact .inl (UInt8.lt_trans h k)
      · exact .inl h
    · rcases k with k | ⟨rfl, k⟩
      · exact .inl k
      · exact .inr ⟨rfl, bl_trans x y z h k⟩
def bitB (n : Nat) : UInt8 := UInt8.ofNat (48 + n % 2)
/-- The last k bits of a number, the first one the greatest. -/
def bitsN : Nat → Nat → List UInt8
  | 0, _ => []
  | k + 1, n => bitsN k (n / 2) ++ [bitB n]
theorem bitsN_len : ∀ k n, (bitsN k n).length = k
  | 0, _ => rfl
  | k + 1, n => by unfold bitsN; rw [List.length_append, bitsN_len k]; rfl
theorem bitsN_get : ∀ (k n i : Nat) (h : i < k), (bitsN k n)[i]'(by rw [bitsN_len]; exact h) = bitB (n / 2 ^ (k - 1 - i))
  | 0, _, _, h => by omega
  | k + 1, n, i, h => by
    have hl := bitsN_len k (n / 2)
    simp only [bitsN]
    by_cases hi : i < k
    · rw [List.getElem_append_left (by rw [hl]; exact hi), bitsN_get k (n / 2) i hi, Nat.div_div_eq_div_mul]
      congr 2
      rw [← Nat.pow_succ']
      congr 1
      omega
    · have : i = k := by omega
      subst this
      rw [List.getElem_append_right (by rw [hl]; exact Nat.le_refl _)]
      have h0 : i + 1 - 1 - i = 0 := by omega
      simp [hl, h0]
/-- The way to a name. -/
def pathN (s : List UInt8) : List UInt8 := bitsN 16 (markN s)
theorem pathN_len (s : List UInt8) : (pathN s).length = 16 := bitsN_len _ _
def wayN (s : List UInt8) : List UInt8 := if goodName s = true then pathN s else []
/-- Does a name stand ahead of another one? -/
def ahead (a b : List UInt8) : Bool := bytesLess (pathN a) (pathN b) || (decide (pathN a = pathN b) && bytesLess a b)
theorem ahead_irr (a : List UInt8) : ahead a a = false := by unfold ahead; rw [bl_irr, bl_irr]; simp
theorem ahead_trans {a b c : List UInt8} (h : ahead a b = true) (k : ahead b c = true) : ahead a c = true := by
  unfold ahead at *
  simp only [Bool.or_eq_true, Bool.and_eq_true, decide_eq_true_eq] at *
  rcases h with h | ⟨e, h⟩
  · rcases k with k | ⟨e', k⟩
    · exact .inl (bl_trans _ _ _ h k)
    · exact .inl (by rw [← e']; exact h)
  · rcases k with k | ⟨e', k⟩
    · exact .inl (by rw [e]; exact k)
    · exact .inr ⟨e.trans e', bl_trans _ _ _ h k⟩
theorem ahead_asym {a b : List UInt8} (h : ahead a b = true) : ahead b a = false := by
  by_cases k : ahead b a = true
  · have := ahead_trans h k
    rw [ahead_irr] at this
    cases this
  · simpa using k
theorem ahead_tri {a b : List UInt8} (h : ahead a b = false) (hn : a ≠ b) : ahead b a = true := by
  unfold ahead at *
  simp only [Bool.or_eq_false_iff, Bool.and_eq_false_iff, decide_eq_false_iff_not, Bool.or_eq_true, Bool.and_eq_true, decide_eq_true_eq] at *
  obtain ⟨h1, h2⟩ := h
  by_cases e : pathN a = pathN b
  · refine .inr ⟨e.symm, ?_⟩
    rcases h2 with h2 | h2
    · exact absurd e h2
    · exact bl_tri _ _ h2 hn
  · exact .inl (bl_tri _ _ h1 e)
def cmpL (a b : List UInt8) : Int := if bytesLess a b = true then -1 else if a = b then 0 else 1
/-- Which of two names stands ahead: below nought, nought, above. -/
def orderN (a b : List UInt8) : Int := if cmpL (wayN a) (wayN b) ≠ 0 then cmpL (wayN a) (wayN b) else cmpL a b
theorem orderN_good {a b : List UInt8} (ha : goodName a = true) (hb : goodName b = true) : orderN a b = if ahead a b = true then -1 else if a = b then 0 else 1 := by
  unfold orderN wayN ahead cmpL
  rw [if_pos ha, if_pos hb]
  by_cases h1 : bytesLess (pathN a) (pathN b) = true
  · simp [h1]
  · by_cases h2 : pathN a = pathN b
    · simp [h2, bl_irr]
    · have : a ≠ b := fun e => h2 (by rw [e])
      simp [h1, h2, this]
/-- An entry of a book. -/
structure Entry where
  name : List UInt8
  value : List UInt8
deriving DecidableEq
@[reducible] def Entry.row (x : Entry) : List Value := [S x.name, S x.value]
@[reducible] def Entry.v (x : Entry) : Value := .agg #[S x.name, S x.value]
theorem entry_row (x : Entry) : x.row.length = 2 := rfl
structure Entry.wf (x : Entry) : Prop where
  name : x.name.length ≤ 4611686018427387904
  value : x.value.length ≤ 4611686018427387904
theorem entry_one (l : List Entry) : ∀ x ∈ l.flatMap Entry.row, one (.v x) = true := fun x hx => by
  obtain ⟨a, _, ha⟩ := List.mem_flatMap.1 hx
  simp only [Entry.row, List.mem_cons, List.not_mem_nil, or_false] at ha
  rcases ha with rfl | rfl <;> rfl
/-- What is wrong with a book, behind a name. -/
def bookG : Option (List UInt8) → List Entry → Int
  | _, [] => 0
  | p, x :: t => if askFault x.name x.value ≠ 0 then askFault x.name x.value else if p.any (fun p => !ahead p x.name) = true then 3 else bookG (some x.name) t
def bookFault (l : List Entry) : Int := if 24 < l.length then 2 else bookG none l
/-- The name ahead of a place. -/
def prevN (l : List Entry) : Nat → Option (List UInt8)
  | 0 => none
  | k + 1 => l[k]?.map Entry.name
theorem bookG_drop {l : List Entry} {k : Nat} (h : k < l.length) : bookG (prevN l k) (l.drop k) = if askFault l[k].name l[k].value ≠ 0 then askFault l[k].name l[k].value else if (prevN l k).any (fun p => !ahead p l[k].name) = true then 3 else bookG (prevN l (k + 1)) (l.drop (k + 1)) := by
  have e : prevN l (k + 1) = some l[k].name := by
    show l[k]?.map Entry.name = _
    rw [List.getElem?_eq_getElem h]
    rfl
  rw [List.drop_eq_getElem_cons h, e]
  rfl
theorem bookG_good : ∀ {l : List Entry} {p : Option (List UInt8)}, bookG p l = 0 → ∀ x ∈ l, goodName x.name = true ∧ x.value.length ≤ 20
  | [], _, _ => by simp
  | a :: l, p, h => fun x hx => by
    unfold bookG at h
    split at h
    · rename_i h1; exact absurd h h1
    · rename_i h1
      split at h
      · cases h
      · rcases List.mem_cons.1 hx with rfl | hx
        · exact askFault_zero (by simpa using h1)
        · exact bookG_good h x hx
theorem bookFault_zero {l : List Entry} (h : bookFault l = 0) : l.length ≤ 24 ∧ (∀ x ∈ l, goodName x.name = true ∧ x.value.length ≤ 20) ∧ bookG none l = 0 := by
  unfold bookFault at h
  split at h
  · cases h
  · exact ⟨by omega, bookG_good h, h⟩
/-- The names of a book rise. -/
theorem bookG_rise : ∀ {l : List Entry} {p : Option (List UInt8)}, bookG p l = 0 → (∀ q, p = some q → ∀ x ∈ l, ahead q x.name = true) ∧ List.Pairwise (fun a b => ahead a.name b.name = true) l
  | [], _, _ => ⟨fun _ _ x hx => (by cases hx), List.Pairwise.nil⟩
  | a :: l, p, h => by
    unfold bookG at h
    split at h
    · rename_i h1; exact absurd h h1
    · split at h
      · cases h
      · rename_i _ h2
        obtain ⟨i1, i2⟩ := bookG_rise h
        have ha : ∀ q, p = some q → ahead q a.name = true := fun q e => by subst e; simpa using h2
        refine ⟨fun q e x hx => ?_, List.Pairwise.cons (fun x hx => i1 _ rfl x hx) i2⟩
        rcases List.mem_cons.1 hx with rfl | hx
        · exact ha q e
        · exact ahead_trans (ha q e) (i1 _ rfl x hx)
end Go.Proofs.Ythkmfihbpbehfaa
/-!
Numbers as bytes: package wire's Num, and the reference's.
-/
namespace Go.Proofs.Ythkmfihbpbehfaa
set_option linter.unusedVariables false
set_option linter.unusedSimpArgs false
open Go.TR
/-- A byte of a number, shifted down. -/
theorem byte_val (n : Nat) (j s : Nat) (hs : s = 8 * j) (hj : j ≤ 7) : IntKind.u8.wrap (Int.fdiv (n : Int) (2 ^ min (Int.toNat (s : Int)) IntKind.u64.bits)) = (((UInt8.ofNat (n / 256 ^ j % 256)).toNat : Nat) : Int) := by
  subst hs
  have e1 : min (Int.toNat ((8 * j : Nat) : Int)) IntKind.u64.bits = 8 * j := by simp [IntKind.bits]; omega
  have e2 : (2 ^ (8 * j) : Int) = ((256 ^ j : Nat) : Int) := by
    rw [Int.pow_mul, show (2 ^ 8 : Int) = 256 from by decide]; exact (Int.natCast_pow 256 j).symm
  rw [e1, e2, u8w, ← Int.ofNat_fdiv]
  have e3 : (UInt8.ofNat (n / 256 ^ j % 256)).toNat = n / 256 ^ j % 256 := by
    rw [UInt8.toNat_ofNat']
    omega
  rw [e3]
  generalize n / 256 ^ j = x
  omega
theorem lowB_get : ∀ (k n i : Nat) (h : i < k), (lowB k n)[i]'(by rw [lowB_length]; exact h) = UInt8.ofNat (n / 256 ^ (k - 1 - i) % 256)
  | k + 1, n, 0, _ => by simp [lowB]
  | k + 1, n, i + 1, h => by
    simp only [lowB, List.getElem_cons_succ]
    rw [lowB_get k n i (by omega)]
    congr 4
    omega
def numE (n : Nat) : List EV := (num n).map fun b => .v (u8 (b.toNat : Nat))
def zer8 : List EV := [.v (u8 0), .v (u8 0), .v (u8 0), .v (u8 0), .v (u8 0), .v (u8 0), .v (u8 0), .v (u8 0)]
theorem numE_length (n : Nat) : (numE n).length = 8 := by unfold numE; rw [List.length_map, num_length]
theorem numE_get (n k : Nat) (h : k < 8) : (numE n)[k]'(by rw [numE_length]; exact h) = .v (u8 ((UInt8.ofNat (n / 256 ^ (7 - k) % 256)).toNat : Nat)) := by
  unfold numE num
  rw [List.getElem_map, lowB_get 8 n k h]
attribute [local irreducible] vc vcOps seqK blockK loopK retK retG retI loopV Plain CallOK CallIn bodied VS vcAny dropG backK brK loopPK IntKind.wrap
set_option maxRecDepth 100000
theorem wirenum_ok (n : Nat) (F : Hp) : Plain Try.prog F 135 [u64 n] (S (num n)) := by
  refine plain_vc (N := 19) (rv := [.tmp 2]) tbok mixed Try.func135 rfl rfl rfl rfl rfl ?_
  (refine run ?_; repeat intro b)
  refine s_loopP (fun k : Nat => k ≤ 8) (fun k => ⟨[(0, .v (u64 (n : Nat))), (3, .loc 0 0), (5, .v (i64 (k : Nat)))], F, [(0, ⟨some b, (numE n).take k ++ zer8.drop k, 214, 8⟩)], 1⟩) (fun k => 8 - k) 0 (by decide) (VS.keepN [0, 3, 5] rfl rfl) ?_
  intro k hk
  (refine run ?_; repeat intro b)
  refine s_if _ rfl (fun h => ?_) (fun h => ?_)
  · have hlt : k < 8 := by simp at h; omega
    (refine run ?_; repeat intro b)
    have e1 : IntKind.i64.wrap (56 - IntKind.i64.wrap (8 * (k : Int))) = ((8 * (7 - k) : Nat) : Int) := by
      rw [wrap_i64 (n := 8 * (k : Int)) (by omega) (by omega), wrap_i64 (by omega) (by omega)]
      omega
    rw [e1]
    refine s_pureO rfl rfl rfl (by omega) ?_
    (refine run ?_; repeat intro b)
    rw [byte_val n (7 - k) _ rfl (by omega)]
    refine s_pureO rfl rfl rfl ⟨by omega, by omega⟩ ?_
    have hl1 : (numE n).length = zer8.length := numE_length n
    have hk1 : k < (numE n).length := by rw [numE_length]; exact hlt
    have hidx : (0 + ((k : Int).toNat) * 1) = k := by omega
    have hlen : ((numE n).take k ++ zer8.drop k).length = 8 := by
      rw [List.length_append, List.length_take, List.length_drop, numE_length]
      have : zer8.length = 8 := rfl
      omega
    refine s_storeX ((numE n).take (k + 1) ++ zer8.drop (k + 1)) rfl rfl rfl rfl rfl rfl ?_ ?_ rfl ?_
    · show 0 + ((k : Int).toNat) * 1 + 1 ≤ ((numE n).take k ++ zer8.drop k).length
      rw [hlen]; omega
    · show ((numE n).take k ++ zer8.drop k).take (0 + ((k : Int).toNat) * 1) ++ [_] ++ ((numE n).take k ++ zer8.drop k).drop (0 + ((k : Int).toNat) * 1 + 1) = _
      rw [hidx, ← fill_step (numE n) zer8 hl1 k hk1, numE_get n k hlt]
    (refine run ?_; repeat intro b)
    rw [wrap_succ (by omega)]
    exact s_loopPn (k + 1) hlt (by omega) (VS.keepN [0, 3, 5] rfl rfl)
  · have hge : k = 8 := by simp at h; omega
    subst hge
    (refine run ?_; repeat intro b)
    have hc : (numE n).take 8 ++ zer8.drop 8 = numE n := by
      have : (numE n).length = 8 := numE_length n
      rw [List.take_of_length_le (by omega)]
      show numE n ++ [] = _
      rw [List.append_nil]
    rw [hc]
    refine s_strR (num n) rfl rfl rfl rfl ?_ ?_ ?_
    · rw [numE_length]; exact Nat.le_refl 8
    · rw [List.take_of_length_le (by rw [numE_length]; exact Nat.le_refl 8)]; rfl
    (refine run ?_; repeat intro b)
    rfl
theorem lowB_cons (k n : Nat) : lowB (k + 1) n = UInt8.ofNat (n / 256 ^ k % 256) :: lowB k n := rfl
theorem refnum_ok (n : Nat) (hn : n < 18446744073709551616) (F : Hp) : Plain Try.prog F 90 [u64 n] (S (num n)) := by
  refine plain_vc (N := 17) (rv := [.tmp 2]) tbok mixed Try.func90 rfl rfl rfl rfl rfl ?_
  (refine run ?_; repeat intro b)
  refine s_loopP (fun k : Nat => k ≤ 8) (fun k => ⟨[(0, .v (u64 (n / 256 ^ k : Nat))), (3, .v (S (lowB k n))), (4, .v (i64 (k : Nat)))], F, [], 0⟩) (fun k => 8 - k) 0 (by decide) (VS.keepN [0, 3, 4] rfl ?_) ?_
  · rw [Nat.pow_zero, Nat.div_one]; rfl
  intro k hk
  (refine run ?_; repeat intro b)
  refine s_if _ rfl (fun h => ?_) (fun h => ?_)
  · have hlt : k < 8 := by simp at h; omega
    (refine run ?_; repeat intro b)
    have e1 : IntKind.u8.wrap (((n / 256 ^ k : Nat) : Int).tmod 256) = (((UInt8.ofNat (n / 256 ^ k % 256)).toNat : Nat) : Int) := by
      have e : ((n / 256 ^ k : Nat) : Int).tmod 256 = ((n / 256 ^ k % 256 : Nat) : Int) := r_rem (n / 256 ^ k) 256
      rw [e, u8w, UInt8.toNat_ofNat']
      omega
    rw [e1]
    refine s_strR [UInt8.ofNat (n / 256 ^ k % 256)] rfl rfl rfl rfl (Nat.le_refl 1) rfl ?_
    (refine run ?_; repeat intro b)
    refine s_pureO rfl rfl rfl (by simp only [bl_S, lowB_length, List.length_cons, List.length_nil]; unfold maxInt; omega) ?_
    (refine run ?_; repeat intro b)
    have hlt2 : n / 256 ^ k < 18446744073709551616 := Nat.lt_of_le_of_lt (Nat.div_le_self _ _) hn
    have e2 : IntKind.u64.wrap (((n / 256 ^ k : Nat) : Int).tdiv 256) = ((n / 256 ^ (k + 1) : Nat) : Int) := by
      have e : IntKind.u64.wrap (((n / 256 ^ k : Nat) : Int).tdiv 256) = ((n / 256 ^ k / 256 : Nat) : Int) := r_quo (n / 256 ^ k) 256 hlt2
      rw [e, Nat.div_div_eq_div_mul, Nat.pow_succ]
    rw [wrap_succ (by omega), e2]
    exact s_loopPc (k + 1) [0] [0, 3, 4] hlt (by omega) rfl rfl rfl rfl trivial rfl
  · have hge : k = 8 := by simp at h; omega
    subst hge
    (refine run ?_; repeat intro b)
    rfl
end Go.Proofs.Ythkmfihbpbehfaa
