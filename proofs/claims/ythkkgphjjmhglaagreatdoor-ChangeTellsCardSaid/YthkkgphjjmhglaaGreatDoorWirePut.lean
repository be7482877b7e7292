/-
Package wire: Put.
-/
import Derived.Test.YthkkgphjjmhglaaGreatDoorSetWireMath
namespace Go.Proofs.YthkkgphjjmhglaaGreatDoor
set_option linter.unusedVariables false
set_option linter.unusedSimpArgs false
open Go.TR
theorem one1 {rs : RL} {x : Value} (h : one (.v x) = true := by rfl) : oneAll rs [.v x] := fun e he => by
  rw [List.mem_singleton] at he
  subst he
  exact ⟨h, x, rfl⟩
theorem un_ptr : Tryz.prog.underlying 348 = some .unsafePointer := by kernel_rfl
theorem lies_bld : liesAt Tryz.prog Tryz.prog.depth 312 (2 / Tryz.prog.cellsOf 312) 0 312 1 = true := by kernel_rfl
def byteE (b : UInt8) : EV := .v (u8 (b.toNat : Nat))
/-- The states of Put's loop: how many parts are put down, and the bytes. -/
def putRs (b0 : Nat) : List UInt8 → Option (Nat × Nat) → RL
  | _, none => [(0, ⟨some b0, [.v (.pointer none), .v (.slice none 0 0)], 312, 2⟩)]
  | o, some (b1, cap) => [(1, ⟨some b1, o.map byteE, 5, cap * 1⟩), (0, ⟨some b0, [.loc 0 0, .row 1 0 o.length cap], 312, 2⟩)]
def putNx : Option (Nat × Nat) → Nat
  | none => 1
  | some _ => 2
theorem one_bytes {rs : RL} (l : List UInt8) : oneAll rs (l.map fun b => .v (.int .u8 (b.toNat : Int))) := fun e he => by
  obtain ⟨b, _, rfl⟩ := List.mem_map.1 he
  exact ⟨rfl, _, rfl⟩
theorem hi_val (n : Nat) (h : n ≤ 600) : IntKind.u8.wrap (Int.fdiv (n : Int) (2 ^ min (Int.toNat 8) IntKind.i64.bits)) = (((UInt8.ofNat (n / 256)).toNat : Nat) : Int) := by
  have e1 : (2 ^ min (Int.toNat 8) IntKind.i64.bits : Int) = ((256 : Nat) : Int) := by decide
  rw [e1, u8w, ← Int.ofNat_fdiv, UInt8.toNat_ofNat']
  generalize n / 256 = q
  omega
theorem lo_val (n : Nat) : IntKind.u8.wrap (n : Int) = (((UInt8.ofNat (n % 256)).toNat : Nat) : Int) := by
  rw [u8w, UInt8.toNat_ofNat']
  omega
theorem tk1 (o : List UInt8) : (o.map byteE).take (o.length * 1) = o.map byteE := List.take_of_length_le (by simp)
theorem tk2 (o : List UInt8) (x : EV) : (o.map byteE ++ [x]).take ((o.length + 1) * 1) = o.map byteE ++ [x] := List.take_of_length_le (by simp)
theorem tk3 (o : List UInt8) (x y : EV) : ((o.map byteE ++ [x]) ++ [y]).take ((o.length + 1 + 1) * 1) = (o.map byteE ++ [x]) ++ [y] := List.take_of_length_le (by simp)
theorem put_cells (o p : List UInt8) : (o ++ part p).map byteE = ((o.map byteE ++ [.v (u8 ((UInt8.ofNat (p.length / 256)).toNat : Nat))]) ++ [.v (u8 ((UInt8.ofNat (p.length % 256)).toNat : Nat))]) ++ p.map fun b => .v (.int .u8 (b.toNat : Int)) := by
  simp [part, byteE]
attribute [local irreducible] vc vcOps seqK blockK loopK retK retG retI loopV Plain CallOK CallIn bodied VS vcAny dropG backK brK loopPK IntKind.wrap
set_option maxRecDepth 100000
set_option maxHeartbeats 4000000 in
theorem put_ok (l : List (List UInt8)) {p : Option Addr} {c : Nat} {F : Hp} (hf : Frow F p (l.map S)) : Plain Tryz.prog F 209 [.slice p l.length c] (pair (S (putO l)) (i64 (putE l))) := by
  refine plain_vc (N := 34) (rv := [.tmp 2, .tmp 3]) tbok mixed Tryz.func209 rfl rfl rfl rfl rfl ?_
  (refine run ?_; repeat intro b)
  refine s_if _ rfl (fun h => ?_) (fun h => ?_)
  · have h2 : 60 < l.length := by simp at h; omega
    (refine run ?_; repeat intro b)
    simp only [tupV, putO, putE, if_pos h2]
    rfl
  · have h2 : ¬ 60 < l.length := by simp at h; omega
    (refine run ?_; repeat intro b)
    generalize b = bb
    refine s_loopP (fun q : Nat × List UInt8 × Option (Nat × Nat) => q.1 ≤ l.length ∧ partsF l [] = partsF (l.drop q.1) q.2.1 ∧ q.2.1.length ≤ 600 ∧ (q.2.2 = none → q.2.1 = []) ∧ (∀ x, q.2.2 = some x → q.2.1.length ≤ x.2 ∧ q.2.1 ≠ []))
      (fun q => ⟨[(0, .v (.slice p l.length c)), (4, .loc 0 0), (10, .v (.slice p l.length c)), (11, .v (i64 (l.length : Nat))), (12, .v (i64 (q.1 : Nat)))], F, putRs bb q.2.1 q.2.2, putNx q.2.2⟩) (fun q => l.length - q.1) (0, [], none) ⟨Nat.zero_le _, rfl, by decide, fun _ => rfl, by simp⟩ (VS.keepN [0, 4, 10, 11, 12] rfl rfl) ?_
    rintro ⟨k, o, u⟩ ⟨hk, hp, ho, hn, hs⟩
    dsimp only at hk hp ho hn hs ⊢
    (refine run ?_; repeat intro b)
    refine s_if _ rfl (fun h3 => ?_) (fun h3 => ?_)
    · have hlt : k < l.length := by simpa using h3
      have hdrop : l.drop k = l[k] :: l.drop (k + 1) := List.drop_eq_getElem_cons hlt
      have hgo : ¬ 600 < o.length + 2 + l[k].length → partsF l [] = partsF (l.drop (k + 1)) (o ++ part l[k]) := fun h => by
        rw [hp, hdrop, partsF, if_neg h]
      have hno : 600 < o.length + 2 + l[k].length → partsF l [] = none := fun h => by
        rw [hp, hdrop, partsF, if_pos h]
      generalize hq : l[k] = q at *
      have hld : Pcell F (padd p (((k : Nat) : Int).toNat * 1)) = some (S q) := by
        have := frow_get hf (j := k) (by simpa using hlt)
        simpa [hq] using this
      have hsz : p.isSome = true := frow_some hf (j := k) (by simpa using hlt)
      (refine run ?_; repeat intro b)
      refine s_pureO rfl rfl rfl ⟨by omega, by omega, hsz⟩ ?_
      refine s_load (S q) rfl rfl rfl rfl hld ?_
      (refine run ?_; repeat intro b)
      cases u with
      | none =>
        have hn0 : o = [] := hn rfl
        subst hn0
        refine s_inline (N' := 8) (rv := [.tmp 2]) tbok mixed Tryz.func246 rfl rfl rfl rfl rfl rfl rfl bd246 rfl ?_
        (refine run ?_; repeat intro b)
        refine s_if (decide (600 < ([] : List UInt8).length + 2 + q.length)) ?_ (fun h4 => ?_) (fun h4 => ?_)
        · refine congrArg (fun b => some (EV.v (.bool b))) ?_
          rw [wrap_i64 (by omega) (by omega), decide_eq_decide, bl_S]
          simp only [List.length_nil]
          omega
        · have h5 := hno (by simpa using h4)
          (refine run ?_; repeat intro b)
          simp only [tupV, putO, putE, if_neg h2, h5]
          rfl
        · have h5 : ¬ 600 < ([] : List UInt8).length + 2 + q.length := by simpa using h4
          have h6 : q.length ≤ 600 := by omega
          (refine run ?_; repeat intro b)
          rw [bl_S, hi_val _ h6]
          refine s_inline (N' := 17) (rv := [.tmp 4]) tbok mixed Tryz.func247 rfl rfl rfl rfl rfl rfl rfl bd247 rfl ?_
          (refine run ?_; repeat intro b)
          refine s_inline (N' := 20) (rv := []) tbok mixed Tryz.func272 rfl rfl rfl rfl rfl rfl rfl bd272 rfl ?_
          (refine run ?_; repeat intro b)
          refine s_peq tbok rfl rfl rfl rfl ?_
          (refine run ?_; repeat intro b)
          refine s_toUnsafe tbok rfl un_ptr rfl rfl rfl rfl rfl rfl ?_
          refine s_same Tryz.func278 (by kernel_rfl) (by kernel_rfl) (by kernel_rfl) (by kernel_rfl) rfl rfl ?_
          refine s_fromUnsafe tbok un_ptr rfl rfl rfl rfl lies_bld rfl ?_
          (refine run ?_; repeat intro b)
          refine s_appV [] rfl rfl rfl rfl rfl rfl rfl (frow_nil _ _) (src_row rfl rfl) one1 (by decide) (fun h => by cases h) (fun _ b1 c1 hc1 => ?_)
          (refine run ?_; repeat intro b)
          rw [bl_S, lo_val]
          refine s_inline (N' := 17) (rv := [.tmp 4]) tbok mixed Tryz.func247 rfl rfl rfl rfl rfl rfl rfl bd247 rfl ?_
          (refine run ?_; repeat intro b)
          refine s_inline (N' := 20) (rv := []) tbok mixed Tryz.func272 rfl rfl rfl rfl rfl rfl rfl bd272 rfl ?_
          (refine run ?_; repeat intro b)
          refine s_peq tbok rfl rfl rfl rfl ?_
          (refine run ?_; repeat intro b)
          refine s_peq tbok rfl rfl rfl rfl ?_
          (refine run ?_; repeat intro b)
          refine s_appR rfl rfl rfl rfl rfl rfl rfl rfl (src_row rfl rfl) one1 (fun h => by cases h) hc1 rfl (by simp) (by show _ * 1 ≤ _; first | omega | (simp only [List.length_nil]; omega)) (fun h => by cases h) (fun _ b2 c2 hc2 => ?_)
          (refine run ?_; repeat intro b)
          refine s_inline (N' := 19) (rv := [.tmp 4, .tmp 5]) tbok mixed Tryz.func248 rfl rfl rfl rfl rfl rfl rfl bd248 rfl ?_
          (refine run ?_; repeat intro b)
          refine s_inline (N' := 20) (rv := []) tbok mixed Tryz.func272 rfl rfl rfl rfl rfl rfl rfl bd272 rfl ?_
          (refine run ?_; repeat intro b)
          refine s_peq tbok rfl rfl rfl rfl ?_
          (refine run ?_; repeat intro b)
          refine s_peq tbok rfl rfl rfl rfl ?_
          (refine run ?_; repeat intro b)
          refine s_appR rfl rfl rfl rfl rfl rfl rfl rfl src_str (one_bytes q) (fun h => by cases h) hc2 rfl (by simp) (by show _ * 1 ≤ _; first | omega | (simp only [List.length_nil] at *; omega)) (fun hm => ?_) (fun _ b3 c3 hc3 => ?_)
          · (refine run ?_; repeat intro b)
            have hq0 : q = [] := List.eq_nil_of_length_eq_zero hm
            rw [wrap_succ (by omega)]
            refine s_loopPq (rs' := putRs bb (([] : List UInt8) ++ part q) (some (b2, c2))) (k + 1, ([] : List UInt8) ++ part q, some (b2, c2)) 1 [(4, 1), (0, 0)] [0, 4, 10, 11, 12] [(1, ⟨some b2, (([] : List UInt8) ++ part q).map byteE, 5, c2 * 1⟩), (0, ⟨some bb, [.loc 0 0, .row 1 0 (([] : List UInt8).length + 1 + 1) c2], 312, 2⟩)]
              ⟨hlt, hgo h5, by rw [List.length_append, part_length]; omega, (fun h => by cases h), (fun x hx => by cases hx; exact ⟨by rw [List.length_append, part_length, hq0]; simp only [List.length_nil] at *; omega, by simp [part]⟩)⟩ (by simp only; omega) (Nat.min_le_left _ _)
              ⟨rfl, ⟨_, rfl, rfl, rfl, rfl, .inl ⟨?_, fun e he => ?_⟩⟩, rfl, ⟨_, rfl, rfl, rfl, rfl, .inr rfl⟩, trivial⟩ (by simp [putRs, part_length, hq0]) rfl rfl rfl rfl rfl rfl
            · rw [put_cells, hq0]; simp
            · revert e; simp [byteE]
          · (refine run ?_; repeat intro b)
            rw [wrap_succ (by omega)]
            refine s_loopPq (rs' := putRs bb (([] : List UInt8) ++ part q) (some (b3, c3))) (k + 1, ([] : List UInt8) ++ part q, some (b3, c3)) 1 [(5, 1), (0, 0)] [0, 4, 10, 11, 12] [(1, ⟨some b3, (([] : List UInt8) ++ part q).map byteE, 5, c3 * 1⟩), (0, ⟨some bb, [.loc 0 0, .row 1 0 (([] : List UInt8).length + 1 + 1 + q.length) c3], 312, 2⟩)]
              ⟨hlt, hgo h5, by rw [List.length_append, part_length]; omega, (fun h => by cases h), (fun x hx => by cases hx; exact ⟨by rw [List.length_append, part_length]; simp only [List.length_nil] at *; omega, by simp [part]⟩)⟩ (by simp only; omega) (Nat.min_le_left _ _)
              ⟨rfl, ⟨_, rfl, rfl, rfl, rfl, .inl ⟨?_, fun e he => ?_⟩⟩, rfl, ⟨_, rfl, rfl, rfl, rfl, .inr rfl⟩, trivial⟩ ?_ rfl rfl rfl rfl rfl rfl
            · rw [put_cells]; simp
            · revert e; simp [byteE]
            · have e : (([] : List UInt8) ++ part q).length = ([] : List UInt8).length + 1 + 1 + q.length := by rw [List.length_append, part_length]; omega
              simp only [putRs, e]
      | some x =>
        obtain ⟨b0, c0⟩ := x
        obtain ⟨hs1, hs2⟩ := hs _ rfl
        dsimp only at hs1
        refine s_inline (N' := 8) (rv := [.tmp 2]) tbok mixed Tryz.func246 rfl rfl rfl rfl rfl rfl rfl bd246 rfl ?_
        (refine run ?_; repeat intro b)
        refine s_if (decide (600 < o.length + 2 + q.length)) ?_ (fun h4 => ?_) (fun h4 => ?_)
        · refine congrArg (fun b => some (EV.v (.bool b))) ?_
          rw [wrap_i64 (by omega) (by omega), decide_eq_decide, bl_S]
          omega
        · have h5 := hno (by simpa using h4)
          (refine run ?_; repeat intro b)
          simp only [tupV, putO, putE, if_neg h2, h5]
          rfl
        · have h5 : ¬ 600 < o.length + 2 + q.length := by simpa using h4
          have h6 : q.length ≤ 600 := by omega
          (refine run ?_; repeat intro b)
          rw [bl_S, hi_val _ h6]
          refine s_inline (N' := 17) (rv := [.tmp 4]) tbok mixed Tryz.func247 rfl rfl rfl rfl rfl rfl rfl bd247 rfl ?_
          (refine run ?_; repeat intro b)
          refine s_inline (N' := 20) (rv := []) tbok mixed Tryz.func272 rfl rfl rfl rfl rfl rfl rfl bd272 rfl ?_
          (refine run ?_; repeat intro b)
          refine s_peq tbok rfl rfl rfl rfl ?_
          (refine run ?_; repeat intro b)
          refine s_peq tbok rfl rfl rfl rfl ?_
          (refine run ?_; repeat intro b)
          refine s_appR rfl rfl rfl rfl rfl rfl rfl rfl (src_row rfl rfl) one1 (fun h => by cases h) hs1 rfl (by simp) (by show _ * 1 ≤ _; omega) (fun h => by cases h) (fun _ b1 c1 hc1 => ?_)
          (refine run ?_; repeat intro b)
          rw [bl_S, lo_val]
          refine s_inline (N' := 17) (rv := [.tmp 4]) tbok mixed Tryz.func247 rfl rfl rfl rfl rfl rfl rfl bd247 rfl ?_
          (refine run ?_; repeat intro b)
          refine s_inline (N' := 20) (rv := []) tbok mixed Tryz.func272 rfl rfl rfl rfl rfl rfl rfl bd272 rfl ?_
          (refine run ?_; repeat intro b)
          refine s_peq tbok rfl rfl rfl rfl ?_
          (refine run ?_; repeat intro b)
          refine s_peq tbok rfl rfl rfl rfl ?_
          (refine run ?_; repeat intro b)
          refine s_appR rfl rfl rfl rfl rfl rfl rfl rfl (src_row rfl rfl) one1 (fun h => by cases h) hc1 rfl (by simp) (by show _ * 1 ≤ _; first | omega | (simp only [List.length_nil]; omega)) (fun h => by cases h) (fun _ b2 c2 hc2 => ?_)
          (refine run ?_; repeat intro b)
          refine s_inline (N' := 19) (rv := [.tmp 4, .tmp 5]) tbok mixed Tryz.func248 rfl rfl rfl rfl rfl rfl rfl bd248 rfl ?_
          (refine run ?_; repeat intro b)
          refine s_inline (N' := 20) (rv := []) tbok mixed Tryz.func272 rfl rfl rfl rfl rfl rfl rfl bd272 rfl ?_
          (refine run ?_; repeat intro b)
          refine s_peq tbok rfl rfl rfl rfl ?_
          (refine run ?_; repeat intro b)
          refine s_peq tbok rfl rfl rfl rfl ?_
          (refine run ?_; repeat intro b)
          refine s_appR rfl rfl rfl rfl rfl rfl rfl rfl src_str (one_bytes q) (fun h => by cases h) hc2 rfl (by simp) (by show _ * 1 ≤ _; first | omega | (simp only [List.length_nil] at *; omega)) (fun hm => ?_) (fun _ b3 c3 hc3 => ?_)
          · (refine run ?_; repeat intro b)
            have hq0 : q = [] := List.eq_nil_of_length_eq_zero hm
            rw [wrap_succ (by omega)]
            refine s_loopPq (rs' := putRs bb (o ++ part q) (some (b2, c2))) (k + 1, o ++ part q, some (b2, c2)) 1 [(5, 1), (0, 0)] [0, 4, 10, 11, 12] [(1, ⟨some b2, (o ++ part q).map byteE, 5, c2 * 1⟩), (0, ⟨some bb, [.loc 0 0, .row 1 0 (o.length + 1 + 1) c2], 312, 2⟩)]
              ⟨hlt, hgo h5, by rw [List.length_append, part_length]; omega, (fun h => by cases h), (fun x hx => by cases hx; exact ⟨by rw [List.length_append, part_length, hq0]; simp only [List.length_nil] at *; omega, by simp [part]⟩)⟩ (by simp only; omega) (Nat.min_le_left _ _)
              ⟨rfl, ⟨_, rfl, rfl, rfl, rfl, .inl ⟨?_, fun e he => ?_⟩⟩, rfl, ⟨_, rfl, rfl, rfl, rfl, .inr rfl⟩, trivial⟩ (by simp [putRs, part_length, hq0]) rfl rfl rfl rfl rfl rfl
            · show _ = List.take ((o.length + 1) * 1) (List.take (o.length * 1) (o.map byteE) ++ _) ++ _
              rw [put_cells, hq0, tk1, tk2]; simp
            · have e : e ∈ List.take ((o.length + 1) * 1) (List.take (o.length * 1) (o.map byteE) ++ [_]) ++ [_] := he
              rw [tk1, tk2] at e
              revert e; simp [byteE]
              rintro (⟨a, _, rfl⟩ | rfl | rfl) <;> exact ⟨_, rfl⟩
          · (refine run ?_; repeat intro b)
            rw [wrap_succ (by omega)]
            refine s_loopPq (rs' := putRs bb (o ++ part q) (some (b3, c3))) (k + 1, o ++ part q, some (b3, c3)) 1 [(6, 1), (0, 0)] [0, 4, 10, 11, 12] [(1, ⟨some b3, (o ++ part q).map byteE, 5, c3 * 1⟩), (0, ⟨some bb, [.loc 0 0, .row 1 0 (o.length + 1 + 1 + q.length) c3], 312, 2⟩)]
              ⟨hlt, hgo h5, by rw [List.length_append, part_length]; omega, (fun h => by cases h), (fun x hx => by cases hx; exact ⟨by rw [List.length_append, part_length]; simp only [List.length_nil] at *; omega, by simp [part]⟩)⟩ (by simp only; omega) (Nat.min_le_left _ _)
              ⟨rfl, ⟨_, rfl, rfl, rfl, rfl, .inl ⟨?_, fun e he => ?_⟩⟩, rfl, ⟨_, rfl, rfl, rfl, rfl, .inr rfl⟩, trivial⟩ ?_ rfl rfl rfl rfl rfl rfl
            · show _ = List.take ((o.length + 1 + 1) * 1) (List.take ((o.length + 1) * 1) (List.take (o.length * 1) (o.map byteE) ++ _) ++ _) ++ _
              rw [put_cells, tk1, tk2, tk3]
            · have e : e ∈ List.take ((o.length + 1 + 1) * 1) (List.take ((o.length + 1) * 1) (List.take (o.length * 1) (o.map byteE) ++ [_]) ++ [_]) ++ _ := he
              rw [tk1, tk2, tk3] at e
              revert e; simp [byteE]
              rintro (⟨a, _, rfl⟩ | rfl | rfl | ⟨a, _, rfl⟩) <;> exact ⟨_, rfl⟩
            · have e : (o ++ part q).length = o.length + 1 + 1 + q.length := by rw [List.length_append, part_length]; omega
              simp only [putRs, e]
    · have hge : k = l.length := by
        have : ¬ k < l.length := by simpa using h3
        omega
      subst hge
      rw [List.drop_length] at hp
      simp only [partsF] at hp
      cases u with
      | none =>
        have hn0 : o = [] := hn rfl
        subst hn0
        (refine run ?_; repeat intro b)
        refine s_inline (N' := 14) (rv := [.tmp 2]) tbok mixed Tryz.func249 rfl rfl rfl rfl rfl rfl rfl bd249 rfl ?_
        (refine run ?_; repeat intro b)
        refine s_regiont 10 (by kernel_rfl) rfl rfl ?_
        (refine run ?_; repeat intro b)
        refine s_ustr0 rfl rfl rfl ?_
        (refine run ?_; repeat intro b)
        simp only [tupV, putO, putE, if_neg h2, hp]
      | some x =>
        obtain ⟨b0, c0⟩ := x
        obtain ⟨hs1, hs2⟩ := hs _ rfl
        dsimp only at hs1
        have hc0 : c0 ≠ 0 := fun h => hs2 (List.eq_nil_of_length_eq_zero (by omega))
        (refine run ?_; repeat intro b)
        refine s_inline (N' := 14) (rv := [.tmp 2]) tbok mixed Tryz.func249 rfl rfl rfl rfl rfl rfl rfl bd249 rfl ?_
        (refine run ?_; repeat intro b)
        refine s_regiont 10 (by kernel_rfl) rfl rfl ?_
        (refine run ?_; repeat intro b)
        refine s_pureO rfl rfl rfl ⟨hc0, _, _, rfl, rfl⟩ ?_
        (refine run ?_; repeat intro b)
        refine s_ustr (rs' := [(0, ⟨some bb, [.loc 0 0, .row 1 0 o.length c0], 312, 2⟩)]) o (by kernel_rfl) (by kernel_rfl) rfl rfl rfl rfl rfl rfl hs2 (by omega) (by simp) (by rw [List.take_of_length_le (by simp)]; rfl) ?_
        (refine run ?_; repeat intro b)
        simp only [tupV, putO, putE, if_neg h2, hp]
end Go.Proofs.YthkkgphjjmhglaaGreatDoor
