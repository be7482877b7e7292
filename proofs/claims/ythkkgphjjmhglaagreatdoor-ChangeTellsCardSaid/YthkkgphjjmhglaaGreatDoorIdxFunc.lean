/-
strings.indexFunc, IndexFunc, ContainsFunc with a predicate that tells single bytes apart: what they answer.
-/
import Derived.WalkKit
import Derived.Shelf.Abstract
import Derived.Below
import Derived.Lib.OthersKept
import Derived.Lib.TrimU
import Derived.Deep.LoopGhost
import Derived.Laws.RangeString
import Derived.Laws.RangeAny
import Derived.Test.YthkkgphjjmhglaaGreatDoorBase
namespace Go.Proofs.YthkkgphjjmhglaaGreatDoor
set_option linter.unusedVariables false
set_option linter.unusedSimpArgs false
open Go.RowKit Go.Lib
open Go.TR (Hp Plain bodied S mkB bl Pres)
/-- Where the first byte is that is not good; -1. -/
def badFrom (good : UInt8 → Bool) (s : List UInt8) (pos : Nat) : Int := if (s.drop pos).all good = true then -1 else ((pos + (s.drop pos).findIdx (fun b => !good b) : Nat) : Int)
theorem badFrom_end {good : UInt8 → Bool} {s : List UInt8} {pos : Nat} (h : ¬ pos < s.length) : badFrom good s pos = -1 := by
  unfold badFrom
  rw [List.drop_eq_nil_of_le (by omega)]
  rfl
theorem badFrom_good {good : UInt8 → Bool} {s : List UInt8} {pos : Nat} (h : pos < s.length) (hg : good s[pos] = true) : badFrom good s pos = badFrom good s (pos + 1) := by
  unfold badFrom
  rw [List.drop_eq_getElem_cons h]
  simp only [List.all_cons, hg, Bool.true_and, List.findIdx_cons, Bool.not_true, cond_false]
  split
  · rfl
  · congr 1; omega
theorem badFrom_bad {good : UInt8 → Bool} {s : List UInt8} {pos : Nat} (h : pos < s.length) (hg : good s[pos] = false) : badFrom good s pos = (pos : Int) := by
  unfold badFrom
  rw [List.drop_eq_getElem_cons h]
  simp only [List.all_cons, hg, Bool.false_and, Bool.false_eq_true, if_false, List.findIdx_cons, Bool.not_false, cond_true, Nat.add_zero]
theorem badFrom_neg (good : UInt8 → Bool) (s : List UInt8) : decide (0 ≤ badFrom good s 0) = !s.all good := by
  unfold badFrom
  rw [List.drop_zero]
  cases s.all good with
  | true => simp
  | false =>
    simp only [Bool.false_eq_true, if_false, Bool.not_false, decide_eq_true_eq]
    omega
theorem enter_of_bodied {P : Program} {g : Nat} (hb : bodied P g) (args : Array Value) (w : World) : (callFunc g args).run P w = .ok (.enter g args) w := by
  obtain ⟨fn, h1, h2, h3⟩ := hb
  have hp : (program : Sem Program).run P w = .ok P w := rfl
  simp only [callFunc, Go.TR.run_bind, hp, h1, h3, h2, Bool.false_eq_true, if_false, Go.TR.run_pure]
set_option maxHeartbeats 2000000 in
set_option maxRecDepth 1000000 in
theorem indexFunc_calls (g : Nat) (lb : Array Value) (hb : bodied Tryz.prog g) (q : Nat → Bool) (good : UInt8 → Bool) (s : List UInt8) (F : Hp) (hlow : ∀ b : UInt8, b.toNat < 128 → q b.toNat = !good b) (hhigh : ∀ r, 128 ≤ r → q r = true) (hgood : ∀ b : UInt8, 128 ≤ b.toNat → good b = false)
    (hp : ∀ r : Nat, r ≤ 1114111 → Plain Tryz.prog F g (.int .i32 (r : Int) :: lb.toList) (.bool (q r))) (w : World) (hw : F.le w) :
    Calls Tryz.prog 250 #[S s, .func (.func g) #[] lb, .bool true] w fun e w' => e = .returned (.int .i64 (badFrom good s 0)) ∧ Below w.heap.size w w' := by
  have eg := enter_of_bodied hb
  have hlen : (mkB s).size = s.length := rfl
  go_enter Tryz.func250, Tryz.ntmps250
  go_wp2
  go_loopg [] s.length (fun gf wx => ∃ pos : Nat, wx.heap[w.heap.size]? = some (.stringIter (mkB s) pos) ∧ Below w.heap.size w wx ∧ badFrom good s pos = badFrom good s 0 ∧ s.length ≤ pos + gf)
  case atStart => exact ⟨0, World.iter_heap w (mkB s) 0, (Below.refl _ w).alloc (Nat.le_refl _) _, rfl, by omega⟩
  case round =>
    obtain ⟨pos, hit, hbw, hleft, hfu⟩ := hrel
    by_cases hps : pos < (mkB s).size
    · obtain ⟨g', rfl⟩ : ∃ g', gk = g' + 1 := ⟨gk - 1, by omega⟩
      have hnx : ∀ ty, (Instr.next (.pointer (some ⟨w.heap.size, 0, none⟩)) true ty).run Tryz.prog wr = _ := fun ty => Lib.run_next_any_at wr w.heap.size (mkB s) pos ty hit hps
      have hwd := Lib.width_pos (mkB s) pos
      have hpl : pos < s.length := hps
      have hcase : (good s[pos] = true ∧ q (Utf8.decode (mkB s) pos).1 = false ∧ (Utf8.decode (mkB s) pos).2 = 1) ∨ (good s[pos] = false ∧ q (Utf8.decode (mkB s) pos).1 = true) := by
        have hget : (mkB s)[pos]'hps = s[pos] := rfl
        by_cases ha : (s[pos]).toNat < 128
        · have hd := decode_ascii (mkB s) pos hps (by rw [hget]; exact ha)
          rw [hget] at hd
          rw [hd]
          cases hgd : good s[pos] with
          | true => exact .inl ⟨rfl, by rw [hlow _ ha, hgd]; rfl, rfl⟩
          | false => exact .inr ⟨rfl, by rw [hlow _ ha, hgd]; rfl⟩
        · have hd := decode_high (mkB s) pos hps (by rw [hget]; omega)
          exact .inr ⟨hgood _ (by omega), hhigh _ hd.1⟩
      have hR1 := Lib.rune_le (mkB s) pos
      obtain ⟨R, hR⟩ : ∃ R, (Utf8.decode (mkB s) pos).1 = R := ⟨_, rfl⟩
      obtain ⟨K, hK⟩ : ∃ K, (Utf8.decode (mkB s) pos).2 = K := ⟨_, rfl⟩
      rw [hR, hK] at hnx
      rw [hR] at hR1
      rw [hR, hK] at hcase
      rw [hK] at hwd
      have hit2 := Lib.iterAt_heap wr w.heap.size (mkB s) pos (pos + K) hit
      have hbw2 := Lib.below_iterAt hbw (k := w.heap.size) (Nat.le_refl _) (mkB s) (pos + K)
      obtain ⟨W, hWd⟩ : ∃ W, wr.iterAt w.heap.size (mkB s) (pos + K) = W := ⟨_, rfl⟩
      rw [hWd] at hnx hit2 hbw2
      have hltW : w.heap.size < W.heap.size := (Array.getElem?_eq_some_iff.1 hit2).1
      have cS : Calls Tryz.prog g (#[.int .i32 (R : Int)] ++ lb) W (fun e w' => e = .returned (.bool (q R)) ∧ Pres [] W w') := by
        have h1 := hp R hR1 W (hw.pres (Pres.of_below hbw2) (by simp))
        have e1 : (Value.int .i32 (R : Int) :: lb.toList).toArray = #[.int .i32 (R : Int)] ++ lb := by apply Array.ext'; simp
        rw [e1] at h1
        exact h1
      clear hp
      rcases hcase with ⟨h1, h2, h3⟩ | ⟨h1, h2⟩
      · rw [h2] at cS
        go_wp2_with (go_at_fn g; refine cS.mono ?_; rintro e W' ⟨rfl, hbc⟩)
        go_roundg g'
        case measure => omega
        case rel =>
          subst h3
          exact ⟨pos + 1, (hbc.block _ hltW (by simp)).trans hit2, (hbw2.trans (hbc.below.mono hbw2.size)), by rw [← badFrom_good hpl h1]; exact hleft, by omega⟩
      · rw [h2] at cS
        go_wp2_with (go_at_fn g; refine cS.mono ?_; rintro e W' ⟨rfl, hbc⟩)
        go_ret
        exact ⟨by rw [← hleft, badFrom_bad hpl h1] <;> rfl, (hbw2.trans (hbc.below.mono hbw2.size))⟩
    · have hnx : ∀ ty, (Instr.next (.pointer (some ⟨w.heap.size, 0, none⟩)) true ty).run Tryz.prog wr = _ := fun ty => Lib.run_next_end_at wr w.heap.size (mkB s) pos ty hit hps
      rw [badFrom_end (s := s) (pos := pos) hps] at hleft
      go_wp2
      go_ret
      exact ⟨by rw [← hleft] <;> rfl, hbw⟩
theorem indexFunc_ok (g : Nat) (lb : Array Value) (hb : bodied Tryz.prog g) (q : Nat → Bool) (good : UInt8 → Bool) (s : List UInt8) (F : Hp) (hlow : ∀ b : UInt8, b.toNat < 128 → q b.toNat = !good b) (hhigh : ∀ r, 128 ≤ r → q r = true) (hgood : ∀ b : UInt8, 128 ≤ b.toNat → good b = false)
    (hp : ∀ r : Nat, r ≤ 1114111 → Plain Tryz.prog F g (.int .i32 (r : Int) :: lb.toList) (.bool (q r))) : Plain Tryz.prog F 250 [S s, .func (.func g) #[] lb, .bool true] (i64 (badFrom good s 0)) :=
  fun w hw => (indexFunc_calls g lb hb q good s F hlow hhigh hgood hp w hw).mono fun e w' h => ⟨h.1, Pres.of_below h.2⟩
end Go.Proofs.YthkkgphjjmhglaaGreatDoor
namespace Go.Proofs.YthkkgphjjmhglaaGreatDoor
open Go.TR
attribute [local irreducible] vc vcOps seqK blockK loopK retK retG retI loopV Plain CallOK CallIn bodied VS vcAny dropG backK brK loopPK IntKind.wrap
set_option maxRecDepth 100000
theorem containsFunc_ok (g : Nat) (lb : Array Value) (hb : bodied Tryz.prog g) (q : Nat → Bool) (good : UInt8 → Bool) (s : List UInt8) (F : Hp) (hlow : ∀ b : UInt8, b.toNat < 128 → q b.toNat = !good b) (hhigh : ∀ r, 128 ≤ r → q r = true) (hgood : ∀ b : UInt8, 128 ≤ b.toNat → good b = false)
    (hp : ∀ r : Nat, r ≤ 1114111 → Plain Tryz.prog F g (.int .i32 (r : Int) :: lb.toList) (.bool (q r))) : Plain Tryz.prog F 178 [S s, .func (.func g) #[] lb] (.bool (!s.all good)) := by
  have h1 := indexFunc_ok g lb hb q good s F hlow hhigh hgood hp
  have h2 : Plain Tryz.prog F 212 [S s, .func (.func g) #[] lb] (i64 (badFrom good s 0)) := by
    refine plain_vc (N := 8) (rv := [.tmp 4]) tbok mixed Tryz.func212 rfl rfl rfl rfl rfl ?_
    (refine run ?_; repeat intro b)
    refine s_plain _ rfl rfl rfl bd250 rfl h1 ?_
    (refine run ?_; repeat intro b)
    rfl
  refine plain_vc (N := 9) (rv := [.tmp 4]) tbok mixed Tryz.func178 rfl rfl rfl rfl rfl ?_
  (refine run ?_; repeat intro b)
  refine s_plain _ rfl rfl rfl bd212 rfl h2 ?_
  (refine run ?_; repeat intro b)
  rw [badFrom_neg]
  rfl
/-- May a byte stand in a name? -/
def nameB (b : UInt8) : Bool := (decide (97 ≤ b.toNat) && decide (b.toNat ≤ 122)) || (decide (48 ≤ b.toNat) && decide (b.toNat ≤ 57))
def nameR (r : Nat) : Bool := (decide (97 ≤ r) && decide (r ≤ 122)) || (decide (48 ≤ r) && decide (r ≤ 57))
def goodName (s : List UInt8) : Bool := decide (1 ≤ s.length) && decide (s.length ≤ 12) && s.all nameB
theorem name1_ok (r : Nat) (F : Hp) : Plain Tryz.prog F 177 [.int .i32 (r : Int)] (.bool (nameR r)) := by
  refine plain_vc (N := 17) (rv := [.tmp 2]) tbok mixed Tryz.func177 rfl rfl rfl rfl rfl ?_
  (refine run ?_; repeat intro b)
  simp only [tupV, bpick_and, bpick_or, nameR]
  have e1 : decide ((97 : Int) ≤ (r : Int)) = decide (97 ≤ r) := by rw [decide_eq_decide]; omega
  have e2 : decide ((r : Int) ≤ 122) = decide (r ≤ 122) := by rw [decide_eq_decide]; omega
  have e3 : decide ((48 : Int) ≤ (r : Int)) = decide (48 ≤ r) := by rw [decide_eq_decide]; omega
  have e4 : decide ((r : Int) ≤ 57) = decide (r ≤ 57) := by rw [decide_eq_decide]; omega
  rw [e1, e2, e3, e4]
theorem name2_ok (r : Nat) {F : Hp} {p : Option Addr} (hp : Pcell F p = some (.func (.func 177) #[] #[])) : Plain Tryz.prog F 179 [.int .i32 (r : Int), .pointer p] (.bool (!nameR r)) := by
  refine plain_vc (N := 8) (rv := [.tmp 3]) tbok mixed Tryz.func179 rfl rfl rfl rfl rfl ?_
  (refine run ?_; repeat intro b)
  refine s_load (.func (.func 177) #[] #[]) rfl rfl rfl rfl hp ?_
  (refine run ?_; repeat intro b)
  refine s_plain _ rfl rfl rfl bd177 rfl (name1_ok r F) ?_
  (refine run ?_; repeat intro b)
  rfl
theorem name_ok (s : List UInt8) (hs : s.length ≤ 4611686018427387904) (F : Hp) : Plain Tryz.prog F 129 [S s] (.bool (goodName s)) := by
  refine plain_vc (N := 18) (rv := [.tmp 2]) tbok mixed Tryz.func129 rfl rfl rfl rfl rfl ?_
  (refine runR ?_; repeat intro b)
  refine s_region ?_
  (refine runR ?_; repeat intro b)
  refine s_region ?_
  (refine runR ?_; repeat intro b)
  refine s_vs (VS.freeze 0 [0, 3] rfl rfl rfl rfl fun F1 hs1 hf1 => VS.id ?_)
  (refine run ?_; repeat intro b)
  refine s_gplain (.bool (!s.all nameB)) rfl rfl rfl rfl bd178 rfl rfl (fun _ => containsFunc_ok 179 #[.pointer (some ⟨b, 0, none⟩)] bd179 (fun r => !nameR r) nameB s F1 (fun _ _ => rfl) (fun r hr => ?_) (fun c hc => ?_) (fun r _ => name2_ok r (hf1 0 _ rfl))) ?_
  · simp only [nameR]
    have e1 : decide (r ≤ 122) = false := by rw [decide_eq_false_iff_not]; omega
    have e2 : decide (r ≤ 57) = false := by rw [decide_eq_false_iff_not]; omega
    rw [e1, e2]
    simp
  · simp only [nameB]
    have e1 : decide (c.toNat ≤ 122) = false := by rw [decide_eq_false_iff_not]; omega
    have e2 : decide (c.toNat ≤ 57) = false := by rw [decide_eq_false_iff_not]; omega
    rw [e1, e2]
    simp
  (refine run ?_; repeat intro b)
  have e1 : decide ((1 : Int) ≤ ((bl (mkB s)).length : Nat)) = decide (1 ≤ s.length) := by rw [decide_eq_decide, bl_S]; omega
  have e2 : decide ((((bl (mkB s)).length : Nat) : Int) ≤ 12) = decide (s.length ≤ 12) := by rw [decide_eq_decide, bl_S]; omega
  simp only [tupV, bpick_and, goodName, Bool.not_not, e1, e2]
theorem goodname_ok (s : List UInt8) (hs : s.length ≤ 4611686018427387904) (F : Hp) : Plain Tryz.prog F 15 [S s] (.bool (goodName s)) := by
  refine plain_vc (N := 41) (rv := [.tmp 2]) tbok mixed Tryz.func15 rfl rfl rfl rfl rfl ?_
  (refine run ?_; repeat intro b)
  refine s_loopP (fun k : Nat => k ≤ s.length ∧ (s.take k).all nameB = true) (fun k => ⟨[(0, .v (S s)), (5, .v (i64 (s.length : Nat))), (6, .v (i64 (k : Nat)))], F, [], 0⟩) (fun k => s.length - k) 0 ⟨Nat.zero_le _, rfl⟩ (VS.keepN [0, 5, 6] rfl rfl) ?_
  rintro k ⟨hk, hall⟩
  (refine run ?_; repeat intro b)
  refine s_if _ rfl (fun h => ?_) (fun h => ?_)
  · have hlt : k < s.length := by simpa using h
    have hget : (bl (mkB s)).getD ((k : Nat) : Int).toNat 0 = s[k] := by
      rw [bl_S, Int.toNat_natCast, List.getD_eq_getElem?_getD, List.getElem?_eq_getElem hlt]; rfl
    have hob : (0 : Int) ≤ (k : Nat) ∧ ((k : Nat) : Int) < (((bl (mkB s)).length : Nat) : Int) := ⟨by omega, by rw [bl_S]; omega⟩
    (refine run ?_; repeat intro b)
    refine s_pureO rfl rfl rfl hob ?_
    (refine run ?_; repeat intro b)
    refine s_gpureO rfl rfl rfl rfl rfl (fun _ => hob) ?_
    (refine run ?_; repeat intro b)
    refine s_gpureO rfl rfl rfl rfl rfl (fun _ => hob) ?_
    (refine run ?_; repeat intro b)
    refine s_gpureO rfl rfl rfl rfl rfl (fun _ => hob) ?_
    (refine run ?_; repeat intro b)
    rw [hget]
    refine s_if (!nameB s[k]) ?_ (fun h2 => ?_) (fun h2 => ?_)
    · refine congrArg (fun b => some (EV.v (.bool b))) ?_
      rw [bpick_or, bpick_and, bpick_and]
      generalize s[k] = c
      unfold nameB
      have e1 : decide ((97 : Int) ≤ ((c.toNat : Nat) : Int)) = decide (97 ≤ c.toNat) := by rw [decide_eq_decide]; omega
      have e2 : decide (((c.toNat : Nat) : Int) ≤ 122) = decide (c.toNat ≤ 122) := by rw [decide_eq_decide]; omega
      have e3 : decide ((48 : Int) ≤ ((c.toNat : Nat) : Int)) = decide (48 ≤ c.toNat) := by rw [decide_eq_decide]; omega
      have e4 : decide (((c.toNat : Nat) : Int) ≤ 57) = decide (c.toNat ≤ 57) := by rw [decide_eq_decide]; omega
      rw [e1, e2, e3, e4]
    · have h3 : s.all nameB = false := by
        have h4 : nameB s[k] = false := by simpa using h2
        rw [Bool.eq_false_iff]
        intro h5
        rw [List.all_eq_true] at h5
        have := h5 _ (List.getElem_mem hlt)
        rw [h4] at this
        cases this
      (refine run ?_; repeat intro b)
      simp only [tupV, goodName, h3, Bool.and_false]
    · have h4 : nameB s[k] = true := by simpa using h2
      (refine run ?_; repeat intro b)
      rw [wrap_succ (by omega)]
      refine s_loopPn (k + 1) ⟨hlt, ?_⟩ (by omega) (VS.keepN [0, 5, 6] rfl rfl)
      rw [List.take_succ_eq_append_getElem hlt, List.all_append, hall]
      simp [h4]
  · have hge : k = s.length := by
      have : ¬ k < s.length := by simpa using h
      omega
    subst hge
    rw [List.take_length] at hall
    (refine run ?_; repeat intro b)
    have e1 : decide ((0 : Int) < ((bl (mkB s)).length : Nat)) = decide (1 ≤ s.length) := by rw [decide_eq_decide, bl_S]; omega
    have e2 : decide ((((bl (mkB s)).length : Nat) : Int) < 13) = decide (s.length ≤ 12) := by rw [decide_eq_decide, bl_S]; omega
    simp only [tupV, bpick_and, goodName, hall, Bool.and_true, e1, e2]
end Go.Proofs.YthkkgphjjmhglaaGreatDoor
