/-
Package wire and its reference: the first part, all parts; parts put down by the reference.
-/
import Derived.Test.YtbhlpnbidmnbkaaDoorWirePut
import Derived.Test.YtbhlpnbidmnbkaaDoorNum
namespace Go.Proofs.YtbhlpnbidmnbkaaDoor
set_option linter.unusedVariables false
set_option linter.unusedSimpArgs false
open Go.TR
theorem or2_val (a b : Nat) (ha : a < 256) (hb : b < 256) : IntKind.i64.wrap (((BitVec.ofInt IntKind.i64.bits (IntKind.i64.wrap ((a : Int) * 2 ^ min (Int.toNat 8) IntKind.i64.bits)) ||| BitVec.ofInt IntKind.i64.bits (b : Int)).toNat : Nat) : Int) = ((256 * a + b : Nat) : Int) := by
  have e0 : (2 ^ min (Int.toNat 8) IntKind.i64.bits : Int) = 256 := by decide
  rw [e0, wrap_i64 (n := (a : Int) * 256) (by omega) (by omega)]
  have e1 : (BitVec.ofInt IntKind.i64.bits ((a : Int) * 256) ||| BitVec.ofInt IntKind.i64.bits (b : Int)).toNat = 256 * a + b := by
    rw [BitVec.toNat_or]
    have h1 : (BitVec.ofInt IntKind.i64.bits ((a : Int) * 256)).toNat = a * 256 := by
      have : ((a : Int) * 256) = ((a * 256 : Nat) : Int) := by omega
      rw [this, BitVec.ofInt_natCast, BitVec.toNat_ofNat]
      show a * 256 % 2 ^ 64 = _
      omega
    have h2 : (BitVec.ofInt IntKind.i64.bits (b : Int)).toNat = b := by
      rw [BitVec.ofInt_natCast, BitVec.toNat_ofNat]
      show b % 2 ^ 64 = _
      omega
    rw [h1, h2, show a * 256 = a <<< 8 from by rw [Nat.shiftLeft_eq], ← Nat.shiftLeft_add_eq_or_of_lt (by omega : b < 2 ^ 8), Nat.shiftLeft_eq]
    omega
  rw [e1, wrap_i64 (by omega) (by omega)]
theorem w256 (a b : Nat) (ha : a < 256) (hb : b < 256) : IntKind.i64.wrap (IntKind.i64.wrap (256 * (a : Int)) + (b : Int)) = ((256 * a + b : Nat) : Int) := by
  rw [wrap_i64 (n := 256 * (a : Int)) (by omega) (by omega), wrap_i64 (by omega) (by omega)]
  omega
theorem u8nat {c : UInt8} : IntKind.i64.wrap ((c.toNat : Nat) : Int) = ((c.toNat : Nat) : Int) := by
  have := c.toNat_lt
  rw [wrap_i64 (by omega) (by omega)]
theorem two_bytes {s : List UInt8} (h : ¬ s.length < 2) : ∃ a b t, s = a :: b :: t := by
  match s, h with
  | a :: b :: t, _ => exact ⟨a, b, t, rfl⟩
  | [a], h => simp at h
  | [], h => simp at h
attribute [local irreducible] vc vcOps seqK blockK loopK retK retG retI loopV Plain CallOK CallIn bodied VS vcAny dropG backK brK loopPK IntKind.wrap
set_option maxRecDepth 100000
theorem parts_step {s rest p r : List UInt8} {out : List (List UInt8)} (hI : partsR s = (partsR rest).map (out ++ ·)) (hf : firstO rest = some (p, r)) : partsR s = (partsR r).map ((out ++ [p]) ++ ·) := by
  rw [hI, partsR_some hf, Option.map_map]
  congr 1
  funext l
  simp
theorem strs_cells (out : List (List UInt8)) (p : List UInt8) (n : Nat) (h : n = out.length) : ((out ++ [p]).map S).map EV.v = ((out.map S).map EV.v).take (n * 1) ++ [.v (S p)] := by
  subst h
  rw [List.take_of_length_le (by simp)]
  simp
theorem strs_plain (l : List (List UInt8)) : ∀ e ∈ (l.map S).map EV.v, ∃ x, e = .v x := all_v _
def partsOk (l : List (List UInt8)) : Bool := match partsF l [] with
  | some _ => decide (l.length ≤ 60)
  | none => false
def partsOut (l : List (List UInt8)) : List UInt8 := match partsF l [] with
  | some o => o
  | none => []
theorem hi2_val (n : Nat) (h : n ≤ 600) : IntKind.u8.wrap (IntKind.i64.wrap ((n : Int).tdiv 256)) = (((UInt8.ofNat (n / 256)).toNat : Nat) : Int) := by
  have e : (n : Int).tdiv 256 = ((n / 256 : Nat) : Int) := (Int.ofNat_tdiv n 256).symm
  rw [e, UInt8.toNat_ofNat']
  have : n / 256 ≤ 600 := by omega
  generalize n / 256 = q at *
  rw [wrap_i64 (by omega) (by omega), u8w]
  omega
theorem lo2_val (n : Nat) : IntKind.u8.wrap ((n : Int).tmod 256) = (((UInt8.ofNat (n % 256)).toNat : Nat) : Int) := by
  have e : (n : Int).tmod 256 = ((n % 256 : Nat) : Int) := Int.ofNat_tmod n 256 ▸ rfl
  rw [e, u8w, UInt8.toNat_ofNat']
  omega
set_option maxHeartbeats 1000000 in
theorem parts_ok (l : List (List UInt8)) (hl : l.length ≤ 4611686018427387904) {p : Option Addr} {c : Nat} {F : Hp} (hf : Frow F p (l.map S)) : Plain Tryd.prog F 37 [.slice p l.length c] (pair (S (partsOut l)) (.bool (partsOk l))) := by
  refine plain_vc (N := 38) (rv := [.tmp 2, .tmp 3]) tbok mixed Tryd.func37 rfl rfl rfl rfl rfl ?_
  (refine run ?_; repeat intro b)
  refine s_loopP (fun q : Nat × List UInt8 => q.1 ≤ l.length ∧ partsF l [] = partsF (l.drop q.1) q.2 ∧ q.2.length ≤ 600)
    (fun q => ⟨[(0, .v (.slice p l.length c)), (4, .v (S q.2)), (7, .v (.slice p l.length c)), (8, .v (i64 (l.length : Nat))), (9, .v (i64 (q.1 : Nat)))], F, [], 0⟩) (fun q => l.length - q.1) (0, []) ⟨Nat.zero_le _, rfl, by decide⟩ (VS.keepN [0, 4, 7, 8, 9] rfl rfl) ?_
  rintro ⟨k, o⟩ ⟨hk, hp, ho⟩
  dsimp only at hk hp ho ⊢
  (refine run ?_; repeat intro b)
  refine s_if _ rfl (fun h3 => ?_) (fun h3 => ?_)
  · have hlt : k < l.length := by simpa using h3
    have hdrop : l.drop k = l[k] :: l.drop (k + 1) := List.drop_eq_getElem_cons hlt
    have hgo : ¬ 600 < o.length + 2 + l[k].length → partsF l [] = partsF (l.drop (k + 1)) (o ++ part l[k]) := fun h => by
      rw [hp, hdrop, partsF, if_neg h]
    have hno : 600 < o.length + 2 + l[k].length → partsF l [] = none := fun h => by
      rw [hp, hdrop, partsF, if_pos h]
    have hbad : 600 < o.length + 2 + l[k].length → partsOut l = [] ∧ partsOk l = false := fun h => by
      unfold partsOut partsOk
      rw [hno h]
      exact ⟨rfl, rfl⟩
    generalize hq : l[k] = q at *
    have hld : Pcell F (padd p (((k : Nat) : Int).toNat * 1)) = some (S q) := by
      have := frow_get hf (j := k) (by simpa using hlt)
      simpa [hq] using this
    have hsz : p.isSome = true := frow_some hf (j := k) (by simpa using hlt)
    (refine run ?_; repeat intro b)
    refine s_pureO rfl rfl rfl ⟨by omega, by omega, hsz⟩ ?_
    refine s_load (S q) rfl rfl rfl rfl hld ?_
    (refine run ?_; repeat intro b)
    refine s_if (decide (600 < q.length)) ?_ (fun h4 => ?_) (fun h4 => ?_)
    · refine congrArg (fun b => some (EV.v (.bool b))) ?_
      rw [decide_eq_decide, bl_S]; omega
    · obtain ⟨e1, e2⟩ := hbad (by have : 600 < q.length := by simpa using h4
                                  omega)
      (refine run ?_; repeat intro b)
      rw [e1, e2]
      rfl
    · have h5 : q.length ≤ 600 := by simpa using h4
      (refine run ?_; repeat intro b)
      rw [bl_S, hi2_val _ h5, lo2_val]
      refine s_strR [UInt8.ofNat (q.length / 256), UInt8.ofNat (q.length % 256)] rfl rfl rfl rfl (Nat.le_refl 2) rfl ?_
      (refine run ?_; repeat intro b)
      refine s_pureO rfl rfl rfl (by rw [bl_S, bl_S]; unfold maxInt; simp only [List.length_cons, List.length_nil]; omega) ?_
      (refine run ?_; repeat intro b)
      refine s_pureO rfl rfl rfl (by rw [bl_S, bl_S, bl_S, bl_S]; unfold maxInt; simp only [List.length_cons, List.length_nil, List.length_append]; omega) ?_
      (refine run ?_; repeat intro b)
      have hpart : bl (mkB o) ++ bl (mkB (bl (mkB [UInt8.ofNat (q.length / 256), UInt8.ofNat (q.length % 256)]) ++ bl (mkB q))) = o ++ part q := rfl
      rw [hpart]
      refine s_if (decide (600 < o.length + 2 + q.length)) ?_ (fun h6 => ?_) (fun h6 => ?_)
      · refine congrArg (fun b => some (EV.v (.bool b))) ?_
        rw [decide_eq_decide, bl_S, List.length_append, part_length]; omega
      · obtain ⟨e1, e2⟩ := hbad (by simpa using h6)
        (refine run ?_; repeat intro b)
        rw [e1, e2]
        rfl
      · have h7 : ¬ 600 < o.length + 2 + q.length := by simpa using h6
        (refine run ?_; repeat intro b)
        rw [wrap_succ (by omega)]
        exact s_loopPq (k + 1, o ++ part q) 0 [] [0, 4, 7, 8, 9] [] ⟨hlt, hgo h7, by simp only [List.length_append, part_length]; omega⟩ (by simp only; omega) (Nat.min_le_left _ _) trivial rfl rfl rfl rfl rfl rfl rfl
  · have hge : k = l.length := by
      have : ¬ k < l.length := by simpa using h3
      omega
    subst hge
    rw [List.drop_length] at hp
    simp only [partsF] at hp
    (refine run ?_; repeat intro b)
    simp only [tupV, partsOut, partsOk, hp]
    have e : decide ((l.length : Int) ≤ 60) = decide (l.length ≤ 60) := by rw [decide_eq_decide]; omega
    rw [e]
end Go.Proofs.YtbhlpnbidmnbkaaDoor
