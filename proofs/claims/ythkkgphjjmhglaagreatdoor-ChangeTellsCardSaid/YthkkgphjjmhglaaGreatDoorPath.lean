/-
The way to a name, the order of names: the walks.
-/
import Derived.Test.YthkkgphjjmhglaaGreatDoorPathMath
import Derived.Test.YthkkgphjjmhglaaGreatDoorNum
namespace Go.Proofs.YthkkgphjjmhglaaGreatDoor
set_option linter.unusedVariables false
set_option linter.unusedSimpArgs false
open Go.TR
open Go.Op (bytesLess)
theorem bitsN_cons : ∀ k n, bitsN (k + 1) n = bitB (n / 2 ^ k) :: bitsN k n
  | 0, n => by simp [bitsN]
  | k + 1, n => by
    have ih := bitsN_cons k (n / 2)
    rw [bitsN, ih, bitsN, Nat.div_div_eq_div_mul, ← Nat.pow_succ']
    rfl
def pathE (n : Nat) : List EV := (bitsN 16 n).map fun b => .v (u8 (b.toNat : Nat))
def zer16 : List EV := [.v (u8 0), .v (u8 0), .v (u8 0), .v (u8 0), .v (u8 0), .v (u8 0), .v (u8 0), .v (u8 0), .v (u8 0), .v (u8 0), .v (u8 0), .v (u8 0), .v (u8 0), .v (u8 0), .v (u8 0), .v (u8 0)]
theorem pathE_length (n : Nat) : (pathE n).length = 16 := by unfold pathE; rw [List.length_map, bitsN_len]
theorem pathE_get (n k : Nat) (h : k < 16) : (pathE n)[k]'(by rw [pathE_length]; exact h) = .v (u8 ((bitB (n / 2 ^ (15 - k))).toNat : Nat)) := by
  unfold pathE
  rw [List.getElem_map, bitsN_get 16 n k h]
theorem bit_val (m j : Nat) (hj : j ≤ 15) : IntKind.u8.wrap (48 + IntKind.u8.wrap (IntKind.u64.wrap ↑(BitVec.ofInt IntKind.u64.bits ((m : Int).fdiv (2 ^ min ((j : Nat) : Int).toNat IntKind.u64.bits)) &&& BitVec.ofInt IntKind.u64.bits 1).toNat)) = (((bitB (m / 2 ^ j)).toNat : Nat) : Int) := by
  have e1 : min (Int.toNat ((j : Nat) : Int)) IntKind.u64.bits = j := by simp [IntKind.bits]; omega
  have e2 : (2 ^ j : Int) = ((2 ^ j : Nat) : Int) := (Int.natCast_pow 2 j).symm
  rw [e1, e2, ← Int.ofNat_fdiv]
  generalize m / 2 ^ j = x
  have e3 : (BitVec.ofInt IntKind.u64.bits (x : Int) &&& BitVec.ofInt IntKind.u64.bits 1).toNat = x % 2 := by
    rw [BitVec.toNat_and, BitVec.ofInt_natCast, BitVec.toNat_ofNat]
    have : (BitVec.ofInt IntKind.u64.bits 1).toNat = 1 := rfl
    rw [this, Nat.and_one_is_mod]
    show x % 2 ^ 64 % 2 = x % 2
    omega
  have e4 : (bitB x).toNat = 48 + x % 2 := by
    unfold bitB
    rw [UInt8.toNat_ofNat']
    omega
  rw [e3, e4, u64w, u8w, u8w]
  omega
attribute [local irreducible] vc vcOps seqK blockK loopK retK retG retI loopV Plain CallOK CallIn bodied VS vcAny dropG backK brK loopPK IntKind.wrap
set_option maxRecDepth 100000
theorem pathof0_ok (s : List UInt8) (hs : s.length ≤ 4611686018427387904) (F : Hp) : Plain Tryz.prog F 145 [S s] (S (pathN s)) := by
  refine plain_vc (N := 23) (rv := [.tmp 2]) tbok mixed Tryz.func145 rfl rfl rfl rfl rfl ?_
  (refine run ?_; repeat intro b)
  refine s_plain _ rfl rfl rfl bd171 rfl (markof_ok s hs F) ?_
  have hm := markN_lt s
  unfold pathN
  generalize markN s = m at hm
  (refine run ?_; repeat intro b)
  refine s_loopP (fun k : Nat => k ≤ 16) (fun k => ⟨[(3, .v (u64 (m : Nat))), (4, .loc 0 0), (8, .v (i64 (k : Nat)))], F, [(0, ⟨some b, (pathE m).take k ++ zer16.drop k, 267, 16⟩)], 1⟩) (fun k => 16 - k) 0 (by decide) (VS.keepN [3, 4, 8] rfl rfl) ?_
  intro k hk
  (refine run ?_; repeat intro b)
  refine s_if _ rfl (fun h => ?_) (fun h => ?_)
  · have hlt : k < 16 := by simp at h; omega
    (refine run ?_; repeat intro b)
    have e1 : IntKind.i64.wrap (15 - (k : Int)) = ((15 - k : Nat) : Int) := by
      rw [wrap_i64 (by omega) (by omega)]
      omega
    rw [e1]
    refine s_pureO rfl rfl rfl (by omega) ?_
    (refine run ?_; repeat intro b)
    rw [bit_val m (15 - k) (by omega)]
    refine s_pureO rfl rfl rfl ⟨by omega, by omega⟩ ?_
    have hl1 : (pathE m).length = zer16.length := pathE_length m
    have hk1 : k < (pathE m).length := by rw [pathE_length]; exact hlt
    have hidx : (0 + ((k : Int).toNat) * 1) = k := by omega
    have hlen : ((pathE m).take k ++ zer16.drop k).length = 16 := by
      rw [List.length_append, List.length_take, List.length_drop, pathE_length]
      have : zer16.length = 16 := rfl
      omega
    refine s_storeX ((pathE m).take (k + 1) ++ zer16.drop (k + 1)) rfl rfl rfl rfl rfl rfl ?_ ?_ rfl ?_
    · show 0 + ((k : Int).toNat) * 1 + 1 ≤ ((pathE m).take k ++ zer16.drop k).length
      rw [hlen]; omega
    · show ((pathE m).take k ++ zer16.drop k).take (0 + ((k : Int).toNat) * 1) ++ [_] ++ ((pathE m).take k ++ zer16.drop k).drop (0 + ((k : Int).toNat) * 1 + 1) = _
      rw [hidx, ← fill_step (pathE m) zer16 hl1 k hk1, pathE_get m k hlt]
    (refine run ?_; repeat intro b)
    rw [wrap_succ (by omega)]
    exact s_loopPn (k + 1) hlt (by omega) (VS.keepN [3, 4, 8] rfl rfl)
  · have hge : k = 16 := by simp at h; omega
    subst hge
    (refine run ?_; repeat intro b)
    have hc : (pathE m).take 16 ++ zer16.drop 16 = pathE m := by
      have : (pathE m).length = 16 := pathE_length m
      rw [List.take_of_length_le (by omega)]
      show pathE m ++ [] = _
      rw [List.append_nil]
    rw [hc]
    refine s_strR (bitsN 16 m) rfl rfl rfl rfl ?_ ?_ ?_
    · rw [pathE_length]; exact Nat.le_refl 16
    · rw [List.take_of_length_le (by rw [pathE_length]; exact Nat.le_refl 16)]; rfl
    (refine run ?_; repeat intro b)
    rfl
theorem pathof_ok (s : List UInt8) (hs : s.length ≤ 4611686018427387904) (F : Hp) : Plain Tryz.prog F 98 [S s] (pair (S (wayN s)) (i64 (if goodName s = true then 0 else 3))) := by
  refine plain_vc (N := 9) (rv := [.tmp 2, .tmp 3]) tbok mixed Tryz.func98 rfl rfl rfl rfl rfl ?_
  (refine run ?_; repeat intro b)
  refine s_plain _ rfl rfl rfl bd129 rfl (name_ok s hs F) ?_
  unfold wayN
  cases hg : goodName s with
  | false =>
    (refine run ?_; repeat intro b)
    rfl
  | true =>
    (refine run ?_; repeat intro b)
    refine s_plain _ rfl rfl rfl bd145 rfl (pathof0_ok s hs F) ?_
    (refine run ?_; repeat intro b)
    rfl
theorem treeway_ok (s : List UInt8) (hs : s.length ≤ 4611686018427387904) (F : Hp) : Plain Tryz.prog F 176 [S s] (S (wayN s)) := by
  refine plain_vc (N := 11) (rv := [.tmp 2]) tbok mixed Tryz.func176 rfl rfl rfl rfl rfl ?_
  (refine run ?_; repeat intro b)
  refine s_plain _ rfl rfl rfl bd98 rfl (pathof_ok s hs F) ?_
  (refine run ?_; repeat intro b)
  rfl
theorem proofway_ok (s : List UInt8) (hs : s.length ≤ 4611686018427387904) (F : Hp) : Plain Tryz.prog F 99 [S s] (S (wayN s)) := by
  refine plain_vc (N := 11) (rv := [.tmp 2]) tbok mixed Tryz.func99 rfl rfl rfl rfl rfl ?_
  (refine run ?_; repeat intro b)
  refine s_plain _ rfl rfl rfl bd98 rfl (pathof_ok s hs F) ?_
  (refine run ?_; repeat intro b)
  rfl
theorem refpath_ok (s : List UInt8) (hs : s.length ≤ 4611686018427387904) (F : Hp) : Plain Tryz.prog F 54 [S s] (S (pathN s)) := by
  refine plain_vc (N := 21) (rv := [.tmp 2]) tbok mixed Tryz.func54 rfl rfl rfl rfl rfl ?_
  (refine run ?_; repeat intro b)
  refine s_plain _ rfl rfl rfl bd22 rfl (refmark_ok s hs F) ?_
  have hm := markN_lt s
  unfold pathN
  generalize markN s = m at hm
  (refine run ?_; repeat intro b)
  refine s_loopP (fun k : Nat => k ≤ 16) (fun k => ⟨[(3, .v (u64 ((m / 2 ^ k : Nat) : Nat))), (4, .v (S (bitsN k m))), (7, .v (i64 (k : Nat)))], F, [], 0⟩) (fun k => 16 - k) 0 (by decide) (VS.keepN [3, 4, 7] rfl (by rw [Nat.pow_zero, Nat.div_one]; rfl)) ?_
  intro k hk
  (refine run ?_; repeat intro b)
  refine s_if _ rfl (fun h => ?_) (fun h => ?_)
  · have hlt : k < 16 := by simp at h; omega
    (refine run ?_; repeat intro b)
    have e2 : ((m / 2 ^ k : Nat) : Int).tmod 2 = ((m / 2 ^ k % 2 : Nat) : Int) := rfl
    have e3 : IntKind.u64.wrap (((m / 2 ^ k % 2 : Nat) : Int) + 1) = ((m / 2 ^ k % 2 + 1 : Nat) : Int) := by rw [u64w]; omega
    have e4 : IntKind.u64.wrap (((m / 2 ^ k : Nat) : Int).tdiv 2) = ((m / 2 ^ (k + 1) : Nat) : Int) := by
      rw [Nat.pow_succ, ← Nat.div_div_eq_div_mul]
      have := Nat.div_le_self m (2 ^ k)
      have : MM = 2305843009213693951 := rfl
      show IntKind.u64.wrap ((m / 2 ^ k / 2 : Nat) : Int) = ((m / 2 ^ k / 2 : Nat) : Int)
      rw [u64w]
      generalize m / 2 ^ k = x at *
      omega
    rw [e2, e3]
    have hd : (((bl { data := #[48, 49] }).take ((m / 2 ^ k % 2 + 1 : Nat) : Int).toNat).drop ((m / 2 ^ k % 2 : Nat) : Int).toNat) = [bitB (m / 2 ^ k)] := by
      unfold bitB
      rcases Nat.mod_two_eq_zero_or_one (m / 2 ^ k) with h | h <;> rw [h] <;> rfl
    refine s_pureO rfl rfl rfl ⟨by omega, by omega, by show ((m / 2 ^ k % 2 + 1 : Nat) : Int) ≤ 2; omega⟩ ?_
    rw [hd]
    (refine run ?_; repeat intro b)
    have hlen := bitsN_len k m
    refine s_pureO rfl rfl rfl (by show 1 + (bitsN k m).length ≤ 9223372036854775807; omega) ?_
    (refine run ?_; repeat intro b)
    rw [e4, wrap_succ (by omega)]
    exact s_loopPn (k + 1) hlt (by omega) (VS.keepN [3, 4, 7] rfl (by rw [bitsN_cons]; rfl))
  · have hge : k = 16 := by simp at h; omega
    subst hge
    (refine run ?_; repeat intro b)
    rfl
theorem isnan_ok (s : List UInt8) (F : Hp) : Plain Tryz.prog F 203 [S s] (.bool false) := by
  refine plain_vc (N := 6) (rv := [.tmp 2]) tbok mixed Tryz.func203 rfl rfl rfl rfl rfl ?_
  (refine run ?_; repeat intro b)
  simp [tupV]
theorem cmps_ok (s t : List UInt8) (F : Hp) : Plain Tryz.prog F 161 [S s, S t] (i64 (cmpL s t)) := by
  refine plain_vc (N := 20) (rv := [.tmp 4]) tbok mixed Tryz.func161 rfl rfl rfl rfl rfl ?_
  (refine run ?_; repeat intro b)
  refine s_plain _ rfl rfl rfl bd203 rfl (isnan_ok s F) ?_
  (refine run ?_; repeat intro b)
  refine s_plain _ rfl rfl rfl bd203 rfl (isnan_ok t F) ?_
  (refine run ?_; repeat intro b)
  refine s_if (bytesLess s t) rfl (fun h => ?_) (fun h => ?_)
  · have e : cmpL s t = -1 := by unfold cmpL; rw [if_pos h]
    rw [e]
    (refine run ?_; repeat intro b)
    rfl
  · (refine run ?_; repeat intro b)
    refine s_if (!(bytesLess s t || decide (s = t))) rfl (fun h2 => ?_) (fun h2 => ?_)
    · have e : cmpL s t = 1 := by
        simp [h] at h2
        unfold cmpL; rw [if_neg (by rw [h]; decide), if_neg h2]
      rw [e]
      (refine run ?_; repeat intro b)
      rfl
    · have e : cmpL s t = 0 := by
        simp [h] at h2
        unfold cmpL; rw [if_neg (by rw [h]; decide), if_pos h2]
      rw [e]
      (refine run ?_; repeat intro b)
      rfl
theorem or2_ok (x y : Int) {p : Option Addr} {c : Nat} {F : Hp} (hf : Frow F p [i64 x, i64 y]) : Plain Tryz.prog F 160 [.slice p 2 c] (i64 (if x ≠ 0 then x else y)) := by
  refine plain_vc (N := 18) (rv := [.tmp 2]) tbok mixed Tryz.func160 rfl rfl rfl rfl rfl ?_
  (refine run ?_; repeat intro b)
  refine s_loopP (fun k : Nat => k ≤ 2 ∧ (0 < k → x = 0) ∧ (1 < k → y = 0)) (fun k => ⟨[(3, .v (i64 0)), (6, .v (.slice p 2 c)), (7, .v (i64 2)), (8, .v (i64 (k : Nat)))], F, [], 0⟩) (fun k => 2 - k) 0 ⟨by decide, fun h => absurd h (by decide), fun h => absurd h (by decide)⟩ (VS.keepN [3, 6, 7, 8] rfl rfl) ?_
  rintro k ⟨hk, h0, h1⟩
  (refine run ?_; repeat intro b)
  by_cases hlt : k < 2
  · refine s_if true (by rw [← decide_eq_true (p := ((k : Nat) : Int) < 2) (by omega)]; rfl) (fun _ => ?_) (fun h => by cases h)
    have g := frow_get hf (j := k) hlt
    (refine run ?_; repeat intro b)
    refine s_pureO rfl rfl rfl ⟨by omega, by omega, frow_some hf (j := k) hlt⟩ ?_
    have hk2 : k = 0 ∨ k = 1 := by omega
    rcases hk2 with rfl | rfl
    · refine s_load (i64 x) rfl rfl rfl rfl g ?_
      (refine run ?_; repeat intro b)
      refine s_if (decide (x ≠ 0)) ?_ (fun h => ?_) (fun h => ?_)
      · refine congrArg (fun b => some (EV.v (.bool b))) ?_
        rw [Bool.eq_iff_iff]; simp
      · rw [if_pos (of_decide_eq_true h)]
        (refine run ?_; repeat intro b)
        rfl
      · (refine run ?_; repeat intro b)
        rw [wrap_succ (k := 0) (by omega)]
        exact s_loopPn 1 ⟨by decide, fun _ => by simpa using h, fun h => absurd h (by decide)⟩ (by decide) (VS.keepN [3, 6, 7, 8] rfl rfl)
    · have hx := h0 (by decide)
      refine s_load (i64 y) rfl rfl rfl rfl g ?_
      (refine run ?_; repeat intro b)
      refine s_if (decide (y ≠ 0)) ?_ (fun h => ?_) (fun h => ?_)
      · refine congrArg (fun b => some (EV.v (.bool b))) ?_
        rw [Bool.eq_iff_iff]; simp
      · rw [if_neg (by simpa using hx)]
        (refine run ?_; repeat intro b)
        rfl
      · (refine run ?_; repeat intro b)
        rw [wrap_succ (k := 1) (by omega)]
        exact s_loopPn 2 ⟨by decide, fun _ => hx, fun _ => by simpa using h⟩ (by decide) (VS.keepN [3, 6, 7, 8] rfl rfl)
  · have hge : k = 2 := by omega
    subst hge
    refine s_if false rfl (fun h => by cases h) (fun _ => ?_)
    rw [if_neg (by simpa using h0 (by decide)), h1 (by decide)]
    (refine run ?_; repeat intro b)
    rfl
theorem order_ok (a b : List UInt8) (ha : a.length ≤ 4611686018427387904) (hb : b.length ≤ 4611686018427387904) (F : Hp) : Plain Tryz.prog F 128 [S a, S b] (i64 (orderN a b)) := by
  refine plain_vc (N := 15) (rv := [.tmp 4]) tbok mixed Tryz.func128 rfl rfl rfl rfl rfl ?_
  (refine run ?_; repeat intro b)
  refine s_plain _ rfl rfl rfl bd176 rfl (treeway_ok a ha F) ?_
  (refine run ?_; repeat intro b)
  refine s_plain _ rfl rfl rfl bd176 rfl (treeway_ok b hb F) ?_
  refine s_plain _ rfl rfl rfl bd161 rfl (cmps_ok _ _ F) ?_
  (refine run ?_; repeat intro b)
  refine s_plain _ rfl rfl rfl bd161 rfl (cmps_ok a b F) ?_
  (refine run ?_; repeat intro b)
  refine s_shift (VS.freeze 0 [13] rfl rfl rfl rfl fun F1 hs1 hf1 => VS.id ?_)
  refine s_plain _ rfl rfl rfl bd160 rfl (or2_ok _ _ hf1) ?_
  (refine run ?_; repeat intro b)
  rfl
theorem ahead_ok (a b : List UInt8) (ha : a.length ≤ 4611686018427387904) (hb : b.length ≤ 4611686018427387904) (F : Hp) : Plain Tryz.prog F 83 [S a, S b] (.bool (ahead a b)) := by
  refine plain_vc (N := 24) (rv := [.tmp 4]) tbok mixed Tryz.func83 rfl rfl rfl rfl rfl ?_
  (refine run ?_; repeat intro b)
  refine s_plain _ rfl rfl rfl bd54 rfl (refpath_ok a ha F) ?_
  (refine run ?_; repeat intro b)
  refine s_plain _ rfl rfl rfl bd54 rfl (refpath_ok b hb F) ?_
  unfold ahead
  generalize pathN a = p
  generalize pathN b = q
  generalize hx : bytesLess p q = x
  generalize hy : bytesLess a b = y
  (refine run ?_; repeat intro b)
  simp only [bl_S, hx, hy, bpick_and, bpick_or, tupV]
  first | rfl | congr
theorem treeright_ok (name value : List UInt8) (hn : name.length ≤ 4611686018427387904) (F : Hp) : Plain Tryz.prog F 115 [S name, S value] (i64 (askFault name value)) := by
  refine plain_vc (N := 13) (rv := [.tmp 4]) tbok mixed Tryz.func115 rfl rfl rfl rfl rfl ?_
  (refine run ?_; repeat intro b)
  refine s_plain _ rfl rfl rfl bd129 rfl (name_ok name hn F) ?_
  (refine run ?_; repeat intro b)
  refine s_if (!goodName name) rfl (fun h => ?_) (fun h => ?_)
  · have h2 : ¬ goodName name = true := by simpa using h
    (refine run ?_; repeat intro b)
    simp only [tupV, askFault, if_neg h2]
  · have h2 : goodName name = true := by simpa using h
    (refine run ?_; repeat intro b)
    refine s_if (decide (20 < value.length)) ?_ (fun h3 => ?_) (fun h3 => ?_)
    · refine congrArg (fun b => some (EV.v (.bool b))) ?_
      rw [decide_eq_decide, bl_S]; omega
    · have h4 : 20 < value.length := by simpa using h3
      (refine run ?_; repeat intro b)
      simp only [tupV, askFault, if_pos h2, if_pos h4]
    · have h4 : ¬ 20 < value.length := by simpa using h3
      (refine run ?_; repeat intro b)
      simp only [tupV, askFault, if_pos h2, if_neg h4]
end Go.Proofs.YthkkgphjjmhglaaGreatDoor
