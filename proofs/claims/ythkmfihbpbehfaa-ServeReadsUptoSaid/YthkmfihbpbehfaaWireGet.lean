/-
Package wire and its reference: the first part, all parts; parts put down by the reference.
-/
import Derived.Test.YthkmfihbpbehfaaWirePut
import Derived.Test.YthkmfihbpbehfaaSetNum
namespace Go.Proofs.Ythkmfihbpbehfaa
set_option linter.unusedVariables false
set_option linter.unusedSimpArgs false
open Go.TR
theorem or2_val (a b : Nat) (ha : a < 256) (hb : b < 256) : IntKind.i64.wrap (((BitVec.ofInt IntKind.i64.bits (IntKind.i64.wrap ((a : Int) * 2 ^ min (Int.toNat 8) IntKind.i64.bits)) ||| BitVec.ofInt IntKind.i64.bits (b : Int)).toNat : Nat) : Int) = ((256 * a + b : Nat) : Int) := by
  have e0 : (2 ^ min (Int.toNat 8) IntKind.i64.bits : Int) = 256 := by decide
  rw [e0, wrap_i64 (n := (a : Int) * 256) (by omega) (by omega)]
  have e1 : (BitVec.ofInt IntKind.i64.bits ((a : Int) * 256) ||| BitVec.ofInt IntKind.i64.bits (b : Int)).toNat = 256 * a + b := by
    rw [BitVec.toNat_or]
    have h1 : (BitVec.ofInt IntKind.i64.bits ((a : Int) * 256)).toNat = a * 256 := by
      have : ((a : Int) * 256) = ((a * 256 : Nat) : Int) := by omega
      rw [this, BitVec.ofInt_natCast, BitVec.toNat_ofNat]
      show a * 256 % 2 ^ 64 = _
      omega
    have h2 : (BitVec.ofInt IntKind.i64.bits (b : Int)).toNat = b := by
      rw [BitVec.ofInt_natCast, BitVec.toNat_ofNat]
      show b % 2 ^ 64 = _
      omega
    rw [h1, h2, show a * 256 = a <<< 8 from by rw [Nat.shiftLeft_eq], ← Nat.shiftLeft_add_eq_or_of_lt (by omega : b < 2 ^ 8), Nat.shiftLeft_eq]
    omega
  rw [e1, wrap_i64 (by omega) (by omega)]
theorem w256 (a b : Nat) (ha : a < 256) (hb : b < 256) : IntKind.i64.wrap (IntKind.i64.wrap (256 * (a : Int)) + (b : Int)) = ((256 * a + b : Nat) : Int) := by
  rw [wrap_i64 (n := 256 * (a : Int)) (by omega) (by omega), wrap_i64 (by omega) (by omega)]
  omega
theorem u8nat {c : UInt8} : IntKind.i64.wrap ((c.toNat : Nat) : Int) = ((c.toNat : Nat) : Int) := by
  have := c.toNat_lt
  rw [wrap_i64 (by omega) (by omega)]
theorem two_bytes {s : List UInt8} (h : ¬ s.length < 2) : ∃ a b t, s = a :: b :: t := by
  match s, h with
  | a :: b :: t, _ => exact ⟨a, b, t, rfl⟩
  | [a], h => simp at h
  | [], h => simp at h
attribute [local irreducible] vc vcOps seqK blockK loopK retK retG retI loopV Plain CallOK CallIn bodied VS vcAny dropG backK brK loopPK IntKind.wrap
set_option maxRecDepth 100000
theorem wfirst_ok (s : List UInt8) (hs : s.length ≤ 4611686018427387904) (F : Hp) : Plain Try.prog F 182 [S s] (firstV s) := by
  refine plain_vc (N := 29) (rv := [.tmp 2, .tmp 3, .tmp 4]) tbok mixed Try.func182 rfl rfl rfl rfl rfl ?_
  (refine run ?_; repeat intro b)
  refine s_if (decide (s.length < 2)) ?_ (fun h => ?_) (fun h => ?_)
  · refine congrArg (fun b => some (EV.v (.bool b))) ?_
    rw [decide_eq_decide, bl_S]; omega
  · have h2 : s.length < 2 := by simpa using h
    have : firstO s = none := by
      match s, h2 with
      | [], _ => rfl
      | [a], _ => rfl
    (refine run ?_; repeat intro b)
    simp only [tupV, firstV, this]
    rfl
  · obtain ⟨a, b, t, rfl⟩ := two_bytes (by simpa using h)
    have ha := a.toNat_lt
    have hb := b.toNat_lt
    simp only [List.length_cons] at hs
    (refine run ?_; repeat intro b)
    refine s_regiond (by kernel_rfl) ?_
    (refine run ?_; repeat intro b)
    refine s_pureO rfl rfl rfl ⟨by omega, by rw [bl_S]; simp only [List.length_cons]; omega⟩ ?_
    (refine run ?_; repeat intro b)
    refine s_pureO rfl rfl rfl ⟨by omega, by rw [bl_S]; simp only [List.length_cons]; omega⟩ ?_
    (refine run ?_; repeat intro b)
    have e1 : (bl (mkB (a :: b :: t))).getD (Int.toNat 0) 0 = a := rfl
    have e2 : (bl (mkB (a :: b :: t))).getD (Int.toNat 1) 0 = b := rfl
    rw [e1, e2, u8nat, u8nat, or2_val _ _ ha hb]
    refine s_pureO rfl rfl rfl ⟨by omega, by rw [bl_S]; simp only [List.length_cons]; omega⟩ ?_
    have e3 : (bl (mkB (a :: b :: t))).drop (Int.toNat 2) = t := rfl
    rw [e3]
    (refine run ?_; repeat intro b)
    refine s_if (decide (t.length < 256 * a.toNat + b.toNat)) ?_ (fun h2 => ?_) (fun h2 => ?_)
    · refine congrArg (fun b => some (EV.v (.bool b))) ?_
      rw [decide_eq_decide, bl_S]; omega
    · (refine run ?_; repeat intro b)
      simp only [tupV, firstV, firstO, if_pos (of_decide_eq_true h2)]
      rfl
    · have h3 : ¬ t.length < 256 * a.toNat + b.toNat := by simpa using h2
      (refine run ?_; repeat intro b)
      refine s_regiond (by kernel_rfl) ?_
      (refine run ?_; repeat intro b)
      refine s_pureO rfl rfl rfl ⟨by omega, by rw [bl_S]; omega⟩ ?_
      (refine run ?_; repeat intro b)
      refine s_pureO rfl rfl rfl ⟨by omega, by rw [bl_S]; omega⟩ ?_
      (refine run ?_; repeat intro b)
      simp only [tupV, firstV, firstO, if_neg h3, bl_S, Int.toNat_natCast]
theorem partfirst_ok (s : List UInt8) (hs : s.length ≤ 4611686018427387904) (F : Hp) : Plain Try.prog F 160 [S s] (firstV s) := by
  refine plain_vc (N := 30) (rv := [.tmp 2, .tmp 3, .tmp 4]) tbok mixed Try.func160 rfl rfl rfl rfl rfl ?_
  (refine run ?_; repeat intro b)
  refine s_if (decide (s.length < 2)) ?_ (fun h => ?_) (fun h => ?_)
  · refine congrArg (fun b => some (EV.v (.bool b))) ?_
    rw [decide_eq_decide, bl_S]; omega
  · have h2 : s.length < 2 := by simpa using h
    have : firstO s = none := by
      match s, h2 with
      | [], _ => rfl
      | [a], _ => rfl
    (refine run ?_; repeat intro b)
    simp only [tupV, firstV, this]
    rfl
  · obtain ⟨a, b, t, rfl⟩ := two_bytes (by simpa using h)
    have ha := a.toNat_lt
    have hb := b.toNat_lt
    simp only [List.length_cons] at hs
    (refine run ?_; repeat intro b)
    refine s_regiond (by kernel_rfl) ?_
    (refine run ?_; repeat intro b)
    refine s_pureO rfl rfl rfl ⟨by omega, by rw [bl_S]; simp only [List.length_cons]; omega⟩ ?_
    (refine run ?_; repeat intro b)
    refine s_pureO rfl rfl rfl ⟨by omega, by rw [bl_S]; simp only [List.length_cons]; omega⟩ ?_
    (refine run ?_; repeat intro b)
    have e1 : (bl (mkB (a :: b :: t))).getD (Int.toNat 0) 0 = a := rfl
    have e2 : (bl (mkB (a :: b :: t))).getD (Int.toNat 1) 0 = b := rfl
    rw [e1, e2, u8nat, u8nat, w256 _ _ ha hb]
    have e4 : IntKind.i64.wrap (((bl (mkB (a :: b :: t))).length : Nat) - 2 : Int) = ((t.length : Nat) : Int) := by
      rw [bl_S]; simp only [List.length_cons]; rw [wrap_i64 (by omega) (by omega)]; omega
    rw [e4]
    (refine run ?_; repeat intro b)
    refine s_if (decide (t.length < 256 * a.toNat + b.toNat)) ?_ (fun h2 => ?_) (fun h2 => ?_)
    · refine congrArg (fun b => some (EV.v (.bool b))) ?_
      rw [decide_eq_decide]; omega
    · (refine run ?_; repeat intro b)
      simp only [tupV, firstV, firstO, if_pos (of_decide_eq_true h2)]
      rfl
    · have h3 : ¬ t.length < 256 * a.toNat + b.toNat := by simpa using h2
      (refine run ?_; repeat intro b)
      refine s_regiond (by kernel_rfl) ?_
      (refine run ?_; repeat intro b)
      have e5 : IntKind.i64.wrap (2 + ((256 * a.toNat + b.toNat : Nat) : Int)) = ((256 * a.toNat + b.toNat + 2 : Nat) : Int) := by
        rw [wrap_i64 (by omega) (by omega)]; omega
      rw [e5]
      refine s_pureO rfl rfl rfl ⟨by omega, by omega, by rw [bl_S]; simp only [List.length_cons]; omega⟩ ?_
      (refine run ?_; repeat intro b)
      refine s_pureO rfl rfl rfl ⟨by omega, by rw [bl_S]; simp only [List.length_cons]; omega⟩ ?_
      (refine run ?_; repeat intro b)
      rw [e5]
      simp only [tupV, firstV, firstO, if_neg h3, bl_S, Int.toNat_natCast]
      rfl
theorem parts_step {s rest p r : List UInt8} {out : List (List UInt8)} (hI : partsR s = (partsR rest).map (out ++ ·)) (hf : firstO rest = some (p, r)) : partsR s = (partsR r).map ((out ++ [p]) ++ ·) := by
  rw [hI, partsR_some hf, Option.map_map]
  congr 1
  funext l
  simp
theorem strs_cells (out : List (List UInt8)) (p : List UInt8) (n : Nat) (h : n = out.length) : ((out ++ [p]).map S).map EV.v = ((out.map S).map EV.v).take (n * 1) ++ [.v (S p)] := by
  subst h
  rw [List.take_of_length_le (by simp)]
  simp
theorem strs_plain (l : List (List UInt8)) : ∀ e ∈ (l.map S).map EV.v, ∃ x, e = .v x := all_v _
set_option maxHeartbeats 1000000 in
theorem get_ok (s : List UInt8) (hs : s.length ≤ 4611686018427387904) (F : Hp) : CallF Try.prog F 156 [S s] (fun x F' => ∃ p c, x = pair (.slice p (getL s).length c) (i64 (getE s)) ∧ Frow F' p ((getL s).map S)) := by
  refine call_vc (N := 32) (rv := [.tmp 2, .tmp 3]) tbok mixed Try.func156 rfl rfl rfl rfl rfl ?_
  (refine run ?_; repeat intro b)
  refine s_if (decide (600 < s.length)) ?_ (fun h => ?_) (fun h => ?_)
  · refine congrArg (fun b => some (EV.v (.bool b))) ?_
    rw [decide_eq_decide, bl_S]; omega
  · have h2 : 600 < s.length := by simpa using h
    (refine run ?_; repeat intro b)
    have e1 : getL s = [] := by unfold getL; rw [if_pos h2]
    have e2 : getE s = 2 := by unfold getE; rw [if_pos h2]
    refine s_retG (VS.id ⟨_, rfl, rfl, none, 0, ?_, ?_⟩)
    · rw [e1, e2]; rfl
    · rw [e1]; exact frow_nil _ _
  · have h2 : ¬ 600 < s.length := by simpa using h
    have fail : ∀ x : Option (List (List UInt8)), partsR s = x → (∀ l, x = some l → 60 < l.length) → getL s = [] ∧ getE s = 3 := fun x hx hl => by
      unfold getL getE
      rw [if_neg h2, if_neg h2, hx]
      cases x with
      | none => exact ⟨rfl, rfl⟩
      | some l =>
        have := hl l rfl
        simp only
        rw [if_neg (by omega), if_neg (by omega)]
        exact ⟨rfl, rfl⟩
    (refine run ?_; repeat intro b)
    refine s_loopP (fun q : List (List UInt8) × List UInt8 × Option Nat × Nat × Nat => partsR s = (partsR q.2.1).map (q.1 ++ ·) ∧ 2 * q.1.length + q.2.1.length ≤ s.length ∧ (q.2.2.1 = none → q.2.2.2.1 = 0 ∧ q.2.2.2.2 = 0) ∧ q.2.2.2.1 = q.1.length ∧ q.2.2.2.1 ≤ q.2.2.2.2 ∧ q.1.length ≤ 60)
      (fun q => ⟨[(4, .row 0 0 q.2.2.2.1 q.2.2.2.2), (0, .v (S q.2.1))], F, [(0, ⟨q.2.2.1, (q.1.map S).map EV.v, 9, q.2.2.2.2 * 1⟩)], 1⟩) (fun q => q.2.1.length) ([], s, none, 0, 0) ⟨by simp, by simp, (fun _ => ⟨rfl, rfl⟩), rfl, Nat.le_refl _, by simp⟩ (VS.nilrow 4 9 [0] rfl rfl (VS.id rfl)) ?_
    rintro ⟨out, rest, blk, n, cap⟩ ⟨hI, hlen, hnil, hn, hcap, h60⟩
    dsimp only at hI hlen hnil hn hcap h60 ⊢
    (refine run ?_; repeat intro b)
    refine s_if (!decide (rest = [])) rfl (fun h3 => ?_) (fun h3 => ?_)
    · have h4 : rest ≠ [] := by simpa using h3
      (refine run ?_; repeat intro b)
      refine s_plain _ rfl rfl rfl bd182 rfl (wfirst_ok rest (by omega) F) ?_
      cases hf : firstO rest with
      | none =>
        simp only [firstV, hf]
        (refine run ?_; repeat intro b)
        obtain ⟨e1, e2⟩ := fail none (by rw [hI, partsR_none h4 hf]; rfl) (by simp)
        refine s_retG (VS.dropR [0] rfl (VS.id ⟨_, rfl, rfl, none, 0, ?_, ?_⟩))
        · rw [e1, e2]; rfl
        · rw [e1]; exact frow_nil _ _
      | some x =>
        obtain ⟨p, r⟩ := x
        simp only [firstV, hf]
        have hlt := firstO_lt hf
        have hst := parts_step hI hf
        (refine run ?_; repeat intro b)
        refine s_if (decide (n = 60)) ?_ (fun h5 => ?_) (fun h5 => ?_)
        · refine congrArg (fun b => some (EV.v (.bool b))) ?_
          rw [Bool.eq_iff_iff]
          simp only [beq_iff_eq, decide_eq_true_eq]
          omega
        · (refine run ?_; repeat intro b)
          obtain ⟨e1, e2⟩ := fail _ hst (fun l hl => by
            rw [Option.map_eq_some_iff] at hl
            obtain ⟨l', _, rfl⟩ := hl
            have : n = 60 := of_decide_eq_true h5
            simp only [List.length_append, List.length_cons]
            omega)
          refine s_retG (VS.dropR [0] rfl (VS.id ⟨_, rfl, rfl, none, 0, ?_, ?_⟩))
          · rw [e1, e2]; rfl
          · rw [e1]; exact frow_nil _ _
        · have h6 : n ≠ 60 := of_decide_eq_false h5
          (refine run ?_; repeat intro b)
          refine s_appR rfl rfl rfl rfl rfl rfl rfl rfl (src_row rfl rfl) one1 hnil hcap rfl (by simp [hn]) (by show _ * 16 ≤ _; omega) (fun h => by cases h) (fun _ b2 c2 hc2 => ?_)
          (refine run ?_; repeat intro b)
          refine s_loopPq (out ++ [p], r, some b2, n + 1, c2) 0 [(2, 0)] [4, 0] [(0, ⟨some b2, ((out ++ [p]).map S).map EV.v, 9, c2 * 1⟩)]
            ⟨hst, by simp only [List.length_append, List.length_cons, List.length_nil]; omega, (fun h => by cases h), by simp [hn], hc2, by simp only [List.length_append, List.length_cons, List.length_nil]; omega⟩ (by simp only; omega) (Nat.min_le_left _ _)
            ⟨rfl, ⟨_, rfl, rfl, rfl, rfl, .inl ⟨strs_cells out p n hn, fun e he => ?_⟩⟩, trivial⟩ rfl rfl rfl rfl rfl rfl rfl
          have he' : e ∈ ((out.map S).map EV.v).take (n * 1) ++ [.v (S p)] := he
          rw [← strs_cells out p n hn] at he'
          exact strs_plain _ e he'
    · have h4 : rest = [] := by simpa using h3
      subst h4
      (refine run ?_; repeat intro b)
      have hl : partsR s = some out := by rw [hI, partsR_nil]; simp
      have e1 : getL s = out := by unfold getL; rw [if_neg h2, hl]; simp [h60]
      have e2 : getE s = 0 := by unfold getE; rw [if_neg h2, hl]; simp [h60]
      refine s_retG ?_
      cases blk with
      | none =>
        obtain ⟨rfl, rfl⟩ := hnil rfl
        have hout : out = [] := List.eq_nil_of_length_eq_zero hn.symm
        subst hout
        refine VS.nilval 0 [2, 3] rfl rfl (VS.dropR [0] rfl (VS.id ⟨_, rfl, rfl, none, 0, ?_, ?_⟩))
        · rw [e1, e2]; rfl
        · rw [e1]; exact frow_nil _ _
      | some b0 =>
        refine VS.freeze 0 [2, 3] rfl (allV_map_v _) rfl rfl fun F' hs1 hf1 => VS.id ⟨_, rfl, rfl, some ⟨b0, 0, none⟩, cap, ?_, ?_⟩
        · rw [e1, e2, ← hn]; rfl
        · rw [e1]; exact hf1
set_option maxHeartbeats 1000000 in
theorem partsread_ok (s : List UInt8) (hs : s.length ≤ 600) (F : Hp) : CallF Try.prog F 127 [S s] (fun x F' => ∃ p c, x = pair (.slice p (readL s).length c) (.bool (readOk s)) ∧ Frow F' p ((readL s).map S)) := by
  refine call_vc (N := 28) (rv := [.tmp 2, .tmp 3]) tbok mixed Try.func127 rfl rfl rfl rfl rfl ?_
  (refine run ?_; repeat intro b)
  refine s_loopP (fun q : List (List UInt8) × List UInt8 × Option Nat × Nat × Nat => partsR s = (partsR q.2.1).map (q.1 ++ ·) ∧ 2 * q.1.length + q.2.1.length ≤ s.length ∧ (q.2.2.1 = none → q.2.2.2.1 = 0 ∧ q.2.2.2.2 = 0) ∧ q.2.2.2.1 = q.1.length ∧ q.2.2.2.1 ≤ q.2.2.2.2)
    (fun q => ⟨[(4, .row 0 0 q.2.2.2.1 q.2.2.2.2), (0, .v (S q.2.1))], F, [(0, ⟨q.2.2.1, (q.1.map S).map EV.v, 9, q.2.2.2.2 * 1⟩)], 1⟩) (fun q => q.2.1.length) ([], s, none, 0, 0) ⟨by simp, by simp, (fun _ => ⟨rfl, rfl⟩), rfl, Nat.le_refl _⟩ (VS.nilrow 4 9 [0] rfl rfl (VS.id rfl)) ?_
  rintro ⟨out, rest, blk, n, cap⟩ ⟨hI, hlen, hnil, hn, hcap⟩
  dsimp only at hI hlen hnil hn hcap ⊢
  (refine run ?_; repeat intro b)
  refine s_if (decide (0 < rest.length)) ?_ (fun h3 => ?_) (fun h3 => ?_)
  · refine congrArg (fun b => some (EV.v (.bool b))) ?_
    rw [decide_eq_decide, bl_S]; omega
  · have h4 : rest ≠ [] := by
      rintro rfl
      simp at h3
    (refine run ?_; repeat intro b)
    refine s_plain _ rfl rfl rfl bd160 rfl (partfirst_ok rest (by omega) F) ?_
    cases hf : firstO rest with
    | none =>
      simp only [firstV, hf]
      (refine run ?_; repeat intro b)
      have e0 : partsR s = none := by rw [hI, partsR_none h4 hf]; rfl
      have e1 : readL s = [] := by unfold readL; rw [e0]
      have e2 : readOk s = false := by unfold readOk; rw [e0]
      refine s_retG (VS.dropR [0] rfl (VS.id ⟨_, rfl, rfl, none, 0, ?_, ?_⟩))
      · rw [e1, e2]; rfl
      · rw [e1]; exact frow_nil _ _
    | some x =>
      obtain ⟨p, r⟩ := x
      simp only [firstV, hf]
      have hlt := firstO_lt hf
      have hst := parts_step hI hf
      (refine run ?_; repeat intro b)
      refine s_appR rfl rfl rfl rfl rfl rfl rfl rfl (src_row rfl rfl) one1 hnil hcap rfl (by simp [hn]) (by show _ * 16 ≤ _; omega) (fun h => by cases h) (fun _ b2 c2 hc2 => ?_)
      (refine run ?_; repeat intro b)
      refine s_loopPq (out ++ [p], r, some b2, n + 1, c2) 0 [(2, 0)] [4, 0] [(0, ⟨some b2, ((out ++ [p]).map S).map EV.v, 9, c2 * 1⟩)]
        ⟨hst, by simp only [List.length_append, List.length_cons, List.length_nil]; omega, (fun h => by cases h), by simp [hn], hc2⟩ (by simp only; omega) (Nat.min_le_left _ _)
        ⟨rfl, ⟨_, rfl, rfl, rfl, rfl, .inl ⟨strs_cells out p n hn, fun e he => ?_⟩⟩, trivial⟩ rfl rfl rfl rfl rfl rfl rfl
      have he' : e ∈ ((out.map S).map EV.v).take (n * 1) ++ [.v (S p)] := he
      rw [← strs_cells out p n hn] at he'
      exact strs_plain _ e he'
  · have h4 : rest = [] := by simpa using h3
    subst h4
    (refine run ?_; repeat intro b)
    have hl : partsR s = some out := by rw [hI, partsR_nil]; simp
    have e1 : readL s = out := by unfold readL; rw [hl]
    have e2 : readOk s = decide ((n : Int) ≤ 60) := by unfold readOk; rw [hl, decide_eq_decide]; omega
    refine s_retG ?_
    cases blk with
    | none =>
      obtain ⟨rfl, rfl⟩ := hnil rfl
      have hout : out = [] := List.eq_nil_of_length_eq_zero hn.symm
      subst hout
      refine VS.nilval 0 [2, 3] rfl rfl (VS.dropR [0] rfl (VS.id ⟨_, rfl, rfl, none, 0, ?_, ?_⟩))
      · rw [e1, e2]; rfl
      · rw [e1]; exact frow_nil _ _
    | some b0 =>
      refine VS.freeze 0 [2, 3] rfl (allV_map_v _) rfl rfl fun F' hs1 hf1 => VS.id ⟨_, rfl, rfl, some ⟨b0, 0, none⟩, cap, ?_, ?_⟩
      · rw [e1, e2, ← hn]; rfl
      · rw [e1]; exact hf1
def partsOk (l : List (List UInt8)) : Bool := match partsF l [] with
  | some _ => decide (l.length ≤ 60)
  | none => false
def partsOut (l : List (List UInt8)) : List UInt8 := match partsF l [] with
  | some o => o
  | none => []
theorem hi2_val (n : Nat) (h : n ≤ 600) : IntKind.u8.wrap (IntKind.i64.wrap ((n : Int).tdiv 256)) = (((UInt8.ofNat (n / 256)).toNat : Nat) : Int) := by
  have e : (n : Int).tdiv 256 = ((n / 256 : Nat) : Int) := (Int.ofNat_tdiv n 256).symm
  rw [e, UInt8.toNat_ofNat']
  have : n / 256 ≤ 600 := by omega
  generalize n / 256 = q at *
  rw [wrap_i64 (by omega) (by omega), u8w]
  omega
theorem lo2_val (n : Nat) : IntKind.u8.wrap ((n : Int).tmod 256) = (((UInt8.ofNat (n % 256)).toNat : Nat) : Int) := by
  have e : (n : Int).tmod 256 = ((n % 256 : Nat) : Int) := Int.ofNat_tmod n 256 ▸ rfl
  rw [e, u8w, UInt8.toNat_ofNat']
  omega
set_option maxHeartbeats 1000000 in
theorem parts_ok (l : List (List UInt8)) (hl : l.length ≤ 4611686018427387904) {p : Option Addr} {c : Nat} {F : Hp} (hf : Frow F p (l.map S)) : Plain Try.prog F 126 [.slice p l.length c] (pair (S (partsOut l)) (.bool (partsOk l))) := by
  refine plain_vc (N := 38) (rv := [.tmp 2, .tmp 3]) tbok mixed Try.func126 rfl rfl rfl rfl rfl ?_
  (refine run ?_; repeat intro b)
  refine s_loopP (fun q : Nat × List UInt8 => q.1 ≤ l.length ∧ partsF l [] = partsF (l.drop q.1) q.2 ∧ q.2.length ≤ 600)
    (fun q => ⟨[(0, .v (.slice p l.length c)), (4, .v (S q.2)), (7, .v (.slice p l.length c)), (8, .v (i64 (l.length : Nat))), (9, .v (i64 (q.1 : Nat)))], F, [], 0⟩) (fun q => l.length - q.1) (0, []) ⟨Nat.zero_le _, rfl, by decide⟩ (VS.keepN [0, 4, 7, 8, 9] rfl rfl) ?_
  rintro ⟨k, o⟩ ⟨hk, hp, ho⟩
  dsimp only at hk hp ho ⊢
  (refine run ?_; repeat intro b)
  refine s_if _ rfl (fun h3 => ?_) (fun h3 => ?_)
  · have hlt : k < l.length := by simpa using h3
    have hdrop : l.drop k = l[k] :: l.drop (k + 1) := List.drop_eq_getElem_cons hlt
    have hgo : ¬ 600 < o.length + 2 + l[k].length → partsF l [] = partsF (l.drop (k + 1)) (o ++ part l[k]) := fun h => by
      rw [hp, hdrop, partsF, if_neg h]
    have hno : 600 < o.length + 2 + l[k].length → partsF l [] = none := fun h => by
      rw [hp, hdrop, partsF, if_pos h]
    have hbad : 600 < o.length + 2 + l[k].length → partsOut l = [] ∧ partsOk l = false := fun h => by
      unfold partsOut partsOk
      rw [hno h]
      exact ⟨rfl, rfl⟩
    generalize hq : l[k] = q at *
    have hld : Pcell F (padd p (((k : Nat) : Int).toNat * 1)) = some (S q) := by
      have := frow_get hf (j := k) (by simpa using hlt)
      simpa [hq] using this
    have hsz : p.isSome = true := frow_some hf (j := k) (by simpa using hlt)
    (refine run ?_; repeat intro b)
    refine s_pureO rfl rfl rfl ⟨by omega, by omega, hsz⟩ ?_
    refine s_load (S q) rfl rfl rfl rfl hld ?_
    (refine run ?_; repeat intro b)
    refine s_if (decide (600 < q.length)) ?_ (fun h4 => ?_) (fun h4 => ?_)
    · refine congrArg (fun b => some (EV.v (.bool b))) ?_
      rw [decide_eq_decide, bl_S]; omega
    · obtain ⟨e1, e2⟩ := hbad (by have : 600 < q.length := by simpa using h4
                                  omega)
      (refine run ?_; repeat intro b)
      rw [e1, e2]
      rfl
    · have h5 : q.length ≤ 600 := by simpa using h4
      (refine run ?_; repeat intro b)
      rw [bl_S, hi2_val _ h5, lo2_val]
      refine s_strR [UInt8.ofNat (q.length / 256), UInt8.ofNat (q.length % 256)] rfl rfl rfl rfl (Nat.le_refl 2) rfl ?_
      (refine run ?_; repeat intro b)
      refine s_pureO rfl rfl rfl (by rw [bl_S, bl_S]; unfold maxInt; simp only [List.length_cons, List.length_nil]; omega) ?_
      (refine run ?_; repeat intro b)
      refine s_pureO rfl rfl rfl (by rw [bl_S, bl_S, bl_S, bl_S]; unfold maxInt; simp only [List.length_cons, List.length_nil, List.length_append]; omega) ?_
      (refine run ?_; repeat intro b)
      have hpart : bl (mkB o) ++ bl (mkB (bl (mkB [UInt8.ofNat (q.length / 256), UInt8.ofNat (q.length % 256)]) ++ bl (mkB q))) = o ++ part q := rfl
      rw [hpart]
      refine s_if (decide (600 < o.length + 2 + q.length)) ?_ (fun h6 => ?_) (fun h6 => ?_)
      · refine congrArg (fun b => some (EV.v (.bool b))) ?_
        rw [decide_eq_decide, bl_S, List.length_append, part_length]; omega
      · obtain ⟨e1, e2⟩ := hbad (by simpa using h6)
        (refine run ?_; repeat intro b)
        rw [e1, e2]
        rfl
      · have h7 : ¬ 600 < o.length + 2 + q.length := by simpa using h6
        (refine run ?_; repeat intro b)
        rw [wrap_succ (by omega)]
        exact s_loopPq (k + 1, o ++ part q) 0 [] [0, 4, 7, 8, 9] [] ⟨hlt, hgo h7, by simp only [List.length_append, part_length]; omega⟩ (by simp only; omega) (Nat.min_le_left _ _) trivial rfl rfl rfl rfl rfl rfl rfl
  · have hge : k = l.length := by
      have : ¬ k < l.length := by simpa using h3
      omega
    subst hge
    rw [List.drop_length] at hp
    simp only [partsF] at hp
    (refine run ?_; repeat intro b)
    simp only [tupV, partsOut, partsOk, hp]
    have e : decide ((l.length : Int) ≤ 60) = decide (l.length ≤ 60) := by rw [decide_eq_decide]; omega
    rw [e]
end Go.Proofs.Ythkmfihbpbehfaa
