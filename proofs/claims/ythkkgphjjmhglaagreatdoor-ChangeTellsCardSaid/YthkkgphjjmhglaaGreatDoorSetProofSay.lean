/-
A small program logic of our own: ways that meet behind two statements.
-/
import Derived.Test.YthkkgphjjmhglaaGreatDoorSetFwD
import Derived.Test.YthkkgphjjmhglaaGreatDoorProof
/-!
A small program logic of our own: ways that meet behind two statements.
-/
set_option linter.unusedVariables false
set_option linter.unusedSimpArgs false
namespace Go.TR
section
variable {P : Program} {tb : Tb} {N : Nat} {KK : Exit → St → Prop} {st : St}
/-- A row that a loop has made, read from now on. -/
theorem VS.shut {env : Env} (env' : Option Addr → Env) {F : Hp} {rs rs' : RL} {nx : Nat} {G : St → Prop} (id : Nat) {blk : Option Nat} {cells : List EV} {ty : TypeId} {cap : Nat} {cs : List Value} (slots : List Nat) (hr : lkR rs id = some ⟨blk, cells, ty, cap⟩) (hcs : allV rs cells = some cs) (h1 : ∀ b, forceL (frzR b id rs) = some rs') (h2 : forceL (Go.TR.dropR [id] rs) = some rs')
    (h3 : ∀ b, Go.TR.keepN (frzN b id env) slots = some (env' (some ⟨b, 0, none⟩))) (h4 : Go.TR.keepN (nilN id env) slots = some (env' none)) (k : ∀ F' p', F.sub F' → Frow F' p' cs → G ⟨env' p', F', rs', nx⟩) (hty : Nat.beq ty 0 = false := by rfl) : VS N [] ⟨env, F, rs, nx⟩ G := by
  cases blk with
  | none =>
    refine VS.nilcells hr (fun e => by rw [e] at hty; cases hty) fun ⟨hc, _⟩ => VS.nilval id slots hr h4 (VS.dropR [id] h2 (VS.id (k F none (Hp.sub.refl F) ?_)))
    subst hc
    cases hcs
    exact fun j u h => by simp at h
  | some b => exact VS.freeze id slots hr hcs (h1 b) (h3 b) fun F' hs hf => VS.id (k F' _ hs hf)
end
end Go.TR
/-!
What is said of a proof: the walks.
-/

namespace Go.Proofs.YthkkgphjjmhglaaGreatDoor
set_option linter.unusedVariables false
set_option linter.unusedSimpArgs false
open Go.TR
attribute [local irreducible] ahead orderN pathN wayN goodName bookFault markN partsOut two
attribute [local irreducible] vc vcOps seqK blockK loopK retK retG retI loopV Plain CallOK CallIn bodied VS vcAny dropG backK brK loopPK IntKind.wrap
set_option maxRecDepth 100000
theorem leafN_pos {l : List Entry} (h : ¬ l.length = 0) : leafN l = 1 :: (l.take l.length).flatMap entE := by
  unfold leafN
  rw [if_neg h, List.take_length]
theorem leaf_snoc {l : List Entry} {k : Nat} (h : k < l.length) : (l.take (k + 1)).flatMap entE = (l.take k).flatMap entE ++ entE l[k] := by
  rw [List.take_succ_eq_append_getElem h, List.flatMap_append]
  simp
set_option maxHeartbeats 1000000 in
theorem treesaid_ok (l : List Entry) (hl : l.length ≤ 24) (hw : ∀ x ∈ l, x.wf) {p : Option Addr} {c : Nat} {F : Hp} (hf : Frow F p (l.flatMap Entry.row)) : Plain Tryz.prog F 172 [.slice p l.length c] (S (leafN l)) := by
  refine plain_vc (N := 35) (rv := [.tmp 2]) tbok mixed Tryz.func172 rfl rfl rfl rfl rfl ?_
  (refine run ?_; repeat intro b)
  refine s_if (decide (l.length = 0)) ?_ (fun h => ?_) (fun h => ?_)
  · refine congrArg (fun b => some (EV.v (.bool b))) ?_
    rw [Bool.eq_iff_iff]; simp
  · have e : leafN l = [0] := by unfold leafN; rw [if_pos (of_decide_eq_true h)]
    rw [e]
    (refine run ?_; repeat intro b)
    refine s_strR [0] rfl rfl rfl rfl (Nat.le_refl 1) rfl ?_
    (refine run ?_; repeat intro b)
    rfl
  · rw [leafN_pos (of_decide_eq_false h)]
    (refine run ?_; repeat intro b)
    refine s_strR [1] rfl rfl rfl rfl (Nat.le_refl 1) rfl ?_
    (refine run ?_; repeat intro b)
    refine s_loopP (fun q : Hp × Nat => F.sub q.1 ∧ q.2 ≤ l.length) (fun q => ⟨[(3, .v (S (1 :: (l.take q.2).flatMap entE))), (15, .v (.slice p l.length c)), (16, .v (i64 (l.length : Nat))), (17, .v (i64 (q.2 : Nat)))], q.1, [], 1⟩) (fun q => l.length - q.2) (F, 0) ⟨Hp.sub.refl _, Nat.zero_le _⟩ (VS.dropR [0] rfl (VS.keepN [3, 15, 16, 17] rfl rfl)) ?_
    rintro ⟨F0, k⟩ ⟨hF, hk⟩
    dsimp only at hF hk ⊢
    have hf0 := frow_sub hF hf
    by_cases hlt : k < l.length
    · obtain ⟨o1, o2⟩ := frow_agg entry_row (by decide) hf0 k hlt
      have hsn := leaf_snoc hlt
      have hlen := leafN_len (l.take k)
      rw [List.length_take] at hlen
      generalize l[k] = x at o2 hsn
      have hx := partsOut_len [x.name, x.value]
      have ex : entE x = partsOut [x.name, x.value] := rfl
      (refine run ?_; repeat intro b)
      refine s_if true (by rw [← decide_eq_true (p := ((k : Nat) : Int) < ((l.length : Nat) : Int)) (by omega)]; rfl) (fun _ => ?_) (fun h => by cases h)
      (refine run ?_; repeat intro b)
      refine s_pureO rfl rfl rfl ⟨by omega, by omega, frow_some hf0 (j := k * 2) (by rw [flat_len entry_row]; omega)⟩ ?_
      refine s_loadA x.row rfl rfl rfl rfl rfl (by rw [Int.toNat_natCast]; exact o1) (by rw [Int.toNat_natCast]; exact o2) ?_
      (refine run ?_; repeat intro b)
      refine s_shift (VS.freeze 2 [3, 15, 16, 17, 26] rfl rfl rfl rfl fun F1 hs1 hf1 => VS.id ?_)
      refine s_plain _ rfl rfl rfl bd209 rfl (put_ok [x.name, x.value] hf1) ?_
      rw [put_two, ← ex]
      (refine run ?_; repeat intro b)
      refine s_pureO rfl rfl rfl (by simp only [bl_S, List.length_cons]; rw [ex]; unfold maxInt; omega) ?_
      (refine run ?_; repeat intro b)
      rw [wrap_succ (by omega)]
      exact s_loopPc (F1, k + 1) [1] [3, 15, 16, 17] ⟨hF.trans hs1, hlt⟩ (by simp only; omega) rfl (by simp only [bl_S]; rw [hsn]; rfl) rfl rfl trivial rfl
    · have hge : k = l.length := by omega
      subst hge
      (refine run ?_; repeat intro b)
      refine s_if false (by rw [← decide_eq_false (p := ((l.length : Nat) : Int) < ((l.length : Nat) : Int)) (by omega)]; rfl) (fun h => by cases h) (fun _ => ?_)
      (refine run ?_; repeat intro b)
      rfl
set_option maxHeartbeats 1000000 in
theorem leafsaid_ok (l : List Entry) (hl : l.length ≤ 24) (hw : ∀ x ∈ l, x.wf) {p : Option Addr} {c : Nat} {F : Hp} (hf : Frow F p (l.flatMap Entry.row)) : Plain Tryz.prog F 107 [.slice p l.length c] (S (leafN l)) := by
  refine plain_vc (N := 31) (rv := [.tmp 2]) tbok mixed Tryz.func107 rfl rfl rfl rfl rfl ?_
  (refine run ?_; repeat intro b)
  refine s_if (decide (l.length = 0)) ?_ (fun h => ?_) (fun h => ?_)
  · refine congrArg (fun b => some (EV.v (.bool b))) ?_
    rw [Bool.eq_iff_iff]; simp
  · have e : leafN l = [0] := by unfold leafN; rw [if_pos (of_decide_eq_true h)]
    rw [e]
    (refine run ?_; repeat intro b)
    rfl
  · rw [leafN_pos (of_decide_eq_false h)]
    (refine run ?_; repeat intro b)
    refine s_loopP (fun q : Hp × Nat => F.sub q.1 ∧ q.2 ≤ l.length) (fun q => ⟨[(3, .v (S (1 :: (l.take q.2).flatMap entE))), (11, .v (.slice p l.length c)), (12, .v (i64 (l.length : Nat))), (13, .v (i64 (q.2 : Nat)))], q.1, [], 0⟩) (fun q => l.length - q.2) (F, 0) ⟨Hp.sub.refl _, Nat.zero_le _⟩ (VS.keepN [3, 11, 12, 13] rfl rfl) ?_
    rintro ⟨F0, k⟩ ⟨hF, hk⟩
    dsimp only at hF hk ⊢
    have hf0 := frow_sub hF hf
    by_cases hlt : k < l.length
    · obtain ⟨o1, o2⟩ := frow_agg entry_row (by decide) hf0 k hlt
      have hsn := leaf_snoc hlt
      have hlen := leafN_len (l.take k)
      rw [List.length_take] at hlen
      generalize l[k] = x at o2 hsn
      have hx := partsOut_len [x.name, x.value]
      have ex : entE x = partsOut [x.name, x.value] := rfl
      (refine run ?_; repeat intro b)
      refine s_if true (by rw [← decide_eq_true (p := ((k : Nat) : Int) < ((l.length : Nat) : Int)) (by omega)]; rfl) (fun _ => ?_) (fun h => by cases h)
      (refine run ?_; repeat intro b)
      refine s_pureO rfl rfl rfl ⟨by omega, by omega, frow_some hf0 (j := k * 2) (by rw [flat_len entry_row]; omega)⟩ ?_
      refine s_loadA x.row rfl rfl rfl rfl rfl (by rw [Int.toNat_natCast]; exact o1) (by rw [Int.toNat_natCast]; exact o2) ?_
      (refine run ?_; repeat intro b)
      refine s_shift (VS.freeze 1 [3, 11, 12, 13, 22] rfl rfl rfl rfl fun F1 hs1 hf1 => VS.id ?_)
      refine s_plain _ rfl rfl rfl bd141 rfl (parts_ok [x.name, x.value] (by simp) hf1) ?_
      rw [← ex]
      (refine run ?_; repeat intro b)
      refine s_pureO rfl rfl rfl (by simp only [bl_S, List.length_cons]; rw [ex]; unfold maxInt; omega) ?_
      (refine run ?_; repeat intro b)
      rw [wrap_succ (by omega)]
      exact s_loopPc (F1, k + 1) [0] [3, 11, 12, 13] ⟨hF.trans hs1, hlt⟩ (by simp only; omega) rfl (by simp only [bl_S]; rw [hsn]; rfl) rfl rfl trivial rfl
    · have hge : k = l.length := by omega
      subst hge
      (refine run ?_; repeat intro b)
      refine s_if false (by rw [← decide_eq_false (p := ((l.length : Nat) : Int) < ((l.length : Nat) : Int)) (by omega)]; rfl) (fun h => by cases h) (fun _ => ?_)
      (refine run ?_; repeat intro b)
      rfl
theorem nodesaid_ok (x y : Nat) (hx : x < 18446744073709551616) (hy : y < 18446744073709551616) (F : Hp) : Plain Tryz.prog F 109 [u64 (x : Nat), u64 (y : Nat)] (S (nodeN x y)) := by
  refine plain_vc (N := 18) (rv := [.tmp 4]) tbok mixed Tryz.func109 rfl rfl rfl rfl rfl ?_
  (refine run ?_; repeat intro b)
  have hm : Plain Tryz.prog F 22 [S [0]] (u64 (noneM : Nat)) := refmark_ok [0] (by decide) F
  refine s_plain _ rfl rfl rfl bd22 rfl hm ?_
  unfold nodeN
  generalize noneM = z
  (refine run ?_; repeat intro b)
  refine s_if (decide (x = z ∧ y = z)) ?_ (fun h => ?_) (fun h => ?_)
  · refine congrArg (fun b => some (EV.v (.bool b))) ?_
    rw [bpick_and, Bool.eq_iff_iff]
    simp
    omega
  · rw [if_pos (of_decide_eq_true h)]
    (refine run ?_; repeat intro b)
    rfl
  · rw [if_neg (of_decide_eq_false h)]
    (refine run ?_; repeat intro b)
    refine s_plain _ rfl rfl rfl bd147 rfl (reftwo_ok 2 x y (by decide) hx hy F) ?_
    (refine run ?_; repeat intro b)
    rfl
def headE (l : List Entry) : List UInt8 := (l.getD 0 ⟨[], []⟩).name
def lastN (l : List Entry) : List UInt8 := (l.getD (l.length - 1) ⟨[], []⟩).name
def leafE (l : List Entry) : Int := if bookFault l ≠ 0 then bookFault l else if 0 < l.length ∧ pathN (headE l) ≠ pathN (lastN l) then 3 else 0
def leafO (l : List Entry) : List UInt8 := if leafE l = 0 then leafN l else []
end Go.Proofs.YthkkgphjjmhglaaGreatDoor
