/-
Package proof: Tell, After: plainly, and the walks.
-/
import Derived.Test.YthkmfihbpbehfaaTreeLaw
import Derived.Test.YthkmfihbpbehfaaProofRef
import Derived.Test.YthkmfihbpbehfaaSetWireMath
/-!
Package proof: Tell, After: plainly, and the walks.
-/
namespace Go.Proofs.Ythkmfihbpbehfaa
set_option linter.unusedVariables false
set_option linter.unusedSimpArgs false
open Go.TR
theorem bookG_of : ∀ {l : List Entry} {p : Option (List UInt8)}, (∀ x ∈ l, askFault x.name x.value = 0) → Book l → (∀ q, p = some q → ∀ x ∈ l, ahead q x.name = true) → bookG p l = 0
  | [], _, _, _, _ => rfl
  | a :: l, p, h1, h2, h3 => by
    obtain ⟨h4, h5⟩ := List.pairwise_cons.1 h2
    have hp : p.any (fun p => !ahead p a.name) = false := by
      cases p with
      | none => rfl
      | some q => simp [h3 q rfl a (by simp)]
    unfold bookG
    rw [if_neg (by simpa using h1 a (by simp)), if_neg (by rw [hp]; decide)]
    exact bookG_of (fun x hx => h1 x (by simp [hx])) h5 (fun q e x hx => by cases e; exact h4 x hx)
theorem askFault_of {n v : List UInt8} (h1 : goodName n = true) (h2 : v.length ≤ 20) : askFault n v = 0 := by
  unfold askFault
  rw [if_pos h1, if_neg (by omega)]
theorem set_fault {l : List Entry} {n v : List UInt8} (h : setE l n v = 0) : bookFault (setL l n v) = 0 ∧ ∀ x ∈ setL l n v, x = ⟨n, v⟩ ∨ x ∈ l := by
  have h0 : findE l n = 0 := by
    unfold setE at h
    by_cases g : findE l n = 0
    · exact g
    · rw [if_pos g] at h; exact h
  have ha : askFault n v = 0 := by
    unfold setE at h
    rw [if_neg (by simpa using h0)] at h
    by_cases g : askFault n v = 0
    · exact g
    · rw [if_pos g] at h; exact h
  have hf : ¬ (hasN l n = false ∧ l.length = 24) := fun g => by
    unfold setE at h
    rw [if_neg (by simpa using h0), if_neg (by simpa using ha), if_pos g] at h
    cases h
  obtain ⟨b0, b1⟩ := findE_zero h0
  obtain ⟨h24, hgood, _⟩ := bookFault_zero b0
  have hb := book_of b0
  have hmem : ∀ x ∈ setL l n v, x = ⟨n, v⟩ ∨ x ∈ l := fun x hx => by
    rcases set_mem hb hx with e | e
    · exact .inl e
    · exact .inr e.1
  refine ⟨?_, hmem⟩
  have hlen := set_len hb n v
  unfold bookFault
  rw [if_neg]
  · refine bookG_of (fun x hx => ?_) (set_book hb n v) (fun q e => by cases e)
    rcases hmem x hx with rfl | hx
    · exact ha
    · exact askFault_of (hgood x hx).1 (hgood x hx).2
  · rw [hlen]
    cases hh : hasN l n with
    | true => simp; omega
    | false =>
      have : l.length ≠ 24 := fun e => hf ⟨hh, e⟩
      simp
      omega
def withE (p : Prf) (v : List UInt8) : Prf := ⟨p.name, setL p.ents p.name v, p.sides⟩
theorem withE_fault {p : Prf} {v : List UInt8} (h : prfFault p = 0) (hs : setE p.ents p.name v = 0) : prfFault (withE p v) = 0 := by
  obtain ⟨z1, z2, z3, z4, z5⟩ := prfFault_zero h
  obtain ⟨s1, s2⟩ := set_fault hs
  have h1 : ((setL p.ents p.name v).any fun x => !decide (pathN x.name = pathN p.name)) = false := by
    rw [List.any_eq_false]
    intro x hx
    rcases s2 x hx with rfl | hx
    · simp
    · simp [z3 x hx]
  have h2 : (p.sides.any fun m => decide (MM ≤ m)) = false := by
    rw [List.any_eq_false]
    intro m hm
    have := z5 m hm
    simp
    omega
  unfold prfFault withE
  simp only
  rw [if_pos z1, if_neg (by simpa using s1), if_neg (by rw [h1]; decide), if_neg (by simpa using z4), if_neg (by rw [h2]; decide)]
theorem withE_wf {p : Prf} {v : List UInt8} (hp : p.wf) (hv : v.length ≤ 4611686018427387904) (hs : setE p.ents p.name v = 0) : (withE p v).wf := by
  obtain ⟨h1, h2, h3, h4, h5⟩ := hp
  obtain ⟨s1, s2⟩ := set_fault hs
  obtain ⟨h24, _, _⟩ := bookFault_zero s1
  exact ⟨h1, by show (setL p.ents p.name v).length ≤ _; omega, fun x hx => by
    rcases s2 x hx with rfl | hx
    · exact ⟨h1, hv⟩
    · exact h3 x hx, h4, h5⟩
def heldE (root : Nat) (p : Prf) : Int := if prfFault p ≠ 0 then prfFault p else if prfRoot p ≠ root then 8 else 0
def tellV (root : Nat) (p : Prf) : List UInt8 := if heldE root p = 0 then getV p.ents p.name else []
def tellB (root : Nat) (p : Prf) : Bool := decide (heldE root p = 0) && findB p.ents p.name
def afterE (root : Nat) (p : Prf) (v : List UInt8) : Int := if heldE root p ≠ 0 then heldE root p else setE p.ents p.name v
def afterN (root : Nat) (p : Prf) (v : List UInt8) : Nat := if afterE root p v = 0 then prfRoot (withE p v) else 0
theorem held_zero {root : Nat} {p : Prf} (h : heldE root p = 0) : prfFault p = 0 ∧ prfRoot p = root := by
  unfold heldE at h
  split at h
  · rename_i h1; exact absurd h h1
  · rename_i h1
    split at h
    · cases h
    · rename_i h2; exact ⟨by simpa using h1, by simpa using h2⟩
theorem prf_find {p : Prf} (h : prfFault p = 0) : findE p.ents p.name = 0 := by
  obtain ⟨z1, z2, _⟩ := prfFault_zero h
  unfold findE
  rw [if_neg (by simpa using z2), if_pos z1]
attribute [local irreducible] ahead orderN pathN wayN goodName bookFault markN lbN hasN findE askFault dropL standsO setE dropE getV findB setO dropO setL prfFault prfRoot heldE tellV tellB afterE afterN
attribute [local irreducible] vc vcOps seqK blockK loopK retK retG retI loopV Plain CallOK CallIn bodied VS vcAny dropG backK brK loopPK IntKind.wrap
set_option maxRecDepth 100000
set_option maxHeartbeats 4000000
theorem held_ok (root : Nat) (p : Prf) (a : Lay) (hw : p.wf) {F : Hp} (hf : p.at F a) : Plain Try.prog F 122 [u64 (root : Nat), p.v a] (i64 (heldE root p)) := by
  refine plain_vc (N := 20) (rv := [.tmp 4]) tbok mixed Try.func122 rfl rfl rfl rfl rfl ?_
  (refine run ?_; repeat intro b)
  refine s_plain _ rfl rfl rfl bd64 rfl (proofroot_ok p a hw hf) ?_
  (refine run ?_; repeat intro b)
  by_cases h0 : prfFault p = 0
  · have e : rootO p = prfRoot p := by unfold rootO; rw [if_pos h0]
    have eh : heldE root p = if prfRoot p ≠ root then 8 else 0 := by unfold heldE; rw [if_neg (by simpa using h0)]
    rw [e, h0]
    generalize prfRoot p = r at eh
    refine s_if (decide (r ≠ root)) ?_ (fun h => ?_) (fun h => ?_)
    · refine congrArg (fun b => some (EV.v (.bool b))) ?_
      rw [bpick_and, Bool.eq_iff_iff]
      simp
      omega
    · rw [if_pos (of_decide_eq_true h)] at eh
      rw [eh]
      (refine run ?_; repeat intro b)
      rfl
    · rw [if_neg (of_decide_eq_false h)] at eh
      rw [eh]
      (refine run ?_; repeat intro b)
      rfl
  · have eh : heldE root p = prfFault p := by unfold heldE; rw [if_pos h0]
    rw [eh]
    refine s_if false (congrArg (fun b => some (EV.v (.bool b))) (by rw [bpick_and, beq_eq_false_iff_ne.2 h0]; rfl)) (fun h => by cases h) (fun _ => ?_)
    (refine run ?_; repeat intro b)
    rfl
theorem tell_ok (root : Nat) (p : Prf) (a : Lay) (hw : p.wf) {F : Hp} (hf : p.at F a) : Plain Try.prog F 65 [u64 (root : Nat), p.v a] (triple (S (tellV root p)) (.bool (tellB root p)) (i64 (heldE root p))) := by
  refine plain_vc (N := 22) (rv := [.tmp 4, .tmp 5, .tmp 6]) tbok mixed Try.func65 rfl rfl rfl rfl rfl ?_
  (refine run ?_; repeat intro b)
  refine s_plain _ rfl rfl rfl bd122 rfl (held_ok root p a hw hf) ?_
  (refine run ?_; repeat intro b)
  refine s_if (decide (heldE root p ≠ 0)) ?_ (fun h => ?_) (fun h => ?_)
  · refine congrArg (fun b => some (EV.v (.bool b))) ?_
    rw [Bool.eq_iff_iff]; simp
  · have h := of_decide_eq_true h
    have e1 : tellV root p = [] := by unfold tellV; rw [if_neg h]
    have e2 : tellB root p = false := by unfold tellB; rw [decide_eq_false h]; rfl
    rw [e1, e2]
    (refine run ?_; repeat intro b)
    rfl
  · have h0 : heldE root p = 0 := by simpa using h
    obtain ⟨g1, g2⟩ := held_zero h0
    have e1 : tellV root p = getV p.ents p.name := by unfold tellV; rw [if_pos h0]
    have e2 : tellB root p = findB p.ents p.name := by unfold tellB; rw [h0]; rfl
    have hg := treeget_ok p.ents p.name hw.ents hw.each hw.name (c := a.ce) hf.ents
    rw [prf_find g1] at hg
    rw [e1, e2, h0]
    (refine run ?_; repeat intro b)
    refine s_plain _ rfl rfl rfl bd54 rfl hg ?_
    (refine run ?_; repeat intro b)
    rfl
theorem after_ok (root : Nat) (p : Prf) (v : List UInt8) (a : Lay) (hw : p.wf) (hv : v.length ≤ 4611686018427387904) {F : Hp} (hf : p.at F a) : Plain Try.prog F 66 [u64 (root : Nat), p.v a, S v] (pair (u64 (afterN root p v : Nat)) (i64 (afterE root p v))) := by
  refine plain_vc (N := 35) (rv := [.tmp 6, .tmp 7]) tbok mixed Try.func66 rfl rfl rfl rfl rfl ?_
  have hN : afterE root p v ≠ 0 → afterN root p v = 0 := fun h => by unfold afterN; rw [if_neg h]
  (refine run ?_; repeat intro b)
  refine s_plain _ rfl rfl rfl bd122 rfl (held_ok root p a hw hf) ?_
  (refine run ?_; repeat intro b)
  refine s_if (decide (heldE root p ≠ 0)) ?_ (fun h => ?_) (fun h => ?_)
  · refine congrArg (fun b => some (EV.v (.bool b))) ?_
    rw [Bool.eq_iff_iff]; simp
  · have h := of_decide_eq_true h
    have e1 : afterE root p v = heldE root p := by unfold afterE; rw [if_pos h]
    rw [hN (by rw [e1]; exact h), e1]
    (refine run ?_; repeat intro b)
    rfl
  · have h0 : heldE root p = 0 := by simpa using h
    obtain ⟨g1, g2⟩ := held_zero h0
    have e1 : afterE root p v = setE p.ents p.name v := by unfold afterE; rw [if_neg (by simpa using h0)]
    (refine run ?_; repeat intro b)
    refine s_callF rfl rfl rfl bd53 rfl (treeset_ok p.ents p.name v hw.ents hw.each hw.name (c := a.ce) hf.ents) ?_
    rintro _ F1 hF1 ⟨p1, c1, rfl, hg1⟩
    (refine run ?_; repeat intro b)
    refine s_if (decide (setE p.ents p.name v ≠ 0)) ?_ (fun h => ?_) (fun h => ?_)
    · refine congrArg (fun b => some (EV.v (.bool b))) ?_
      rw [Bool.eq_iff_iff]; simp
    · rw [hN (by rw [e1]; exact of_decide_eq_true h), e1]
      (refine run ?_; repeat intro b)
      rfl
    · have hs : setE p.ents p.name v = 0 := by simpa using h
      have eO : setO p.ents p.name v = setL p.ents p.name v := by unfold setO; rw [if_pos hs]
      have hq := withE_fault g1 hs
      have hr := proofroot_ok (withE p v) ⟨p1, c1, a.s, a.cs⟩ (withE_wf hw hv hs) (F := F1) ⟨by show Frow F1 p1 ((setL p.ents p.name v).flatMap Entry.row); rw [← eO]; exact hg1, frow_sub hF1 hf.sides⟩
      have e2 : rootO (withE p v) = prfRoot (withE p v) := by unfold rootO; rw [if_pos hq]
      have e3 : afterN root p v = prfRoot (withE p v) := by unfold afterN; rw [if_pos (by rw [e1]; exact hs)]
      rw [hq, e2] at hr
      rw [e1, hs, e3, eO]
      (refine run ?_; repeat intro b)
      refine s_plain _ rfl rfl rfl bd64 rfl hr ?_
      (refine run ?_; repeat intro b)
      rfl
end Go.Proofs.Ythkmfihbpbehfaa
/-!
Eight bytes read as a number: package wire, and the reference.
-/
namespace Go.Proofs.Ythkmfihbpbehfaa
set_option linter.unusedVariables false
set_option linter.unusedSimpArgs false
open Go.TR
theorem or_val (n c : Nat) (hn : n < 72057594037927936) (hc : c < 256) : IntKind.u64.wrap (((BitVec.ofInt IntKind.u64.bits (IntKind.u64.wrap ((n : Int) * 2 ^ min (Int.toNat 8) IntKind.u64.bits)) ||| BitVec.ofInt IntKind.u64.bits (IntKind.u64.wrap (c : Int))).toNat : Nat) : Int) = ((256 * n + c : Nat) : Int) := by
  have h0 : (2 ^ min (Int.toNat 8) IntKind.u64.bits : Int) = 256 := by decide
  have h1 : IntKind.u64.wrap ((n : Int) * 256) = ((n * 256 : Nat) : Int) := by rw [u64w]; omega
  have h2 : IntKind.u64.wrap (c : Int) = (c : Int) := by rw [u64w]; omega
  rw [h0, h1, h2]
  have h3 : (BitVec.ofInt IntKind.u64.bits ((n * 256 : Nat) : Int) ||| BitVec.ofInt IntKind.u64.bits (c : Int)).toNat = 256 * n + c := by
    rw [BitVec.toNat_or]
    have e1 : (BitVec.ofInt IntKind.u64.bits ((n * 256 : Nat) : Int)).toNat = n <<< 8 := by
      rw [Nat.shiftLeft_eq]; simp [IntKind.bits]; omega
    have e2 : (BitVec.ofInt IntKind.u64.bits (c : Int)).toNat = c := by simp [IntKind.bits]; omega
    rw [e1, e2, ← Nat.shiftLeft_add_eq_or_of_lt (show c < 2 ^ 8 by omega), Nat.shiftLeft_eq]
    omega
  rw [h3, u64w]
  omega
theorem take_be_lt (l : List UInt8) (k : Nat) (hl : l.length = 8) (hk : k < 8) : be (l.take k) < 72057594037927936 := by
  have h1 := be_lt (l.take k)
  have h2 : (l.take k).length = k := by rw [List.length_take]; omega
  rw [h2] at h1
  have h3 : 256 ^ k ≤ 256 ^ 7 := Nat.pow_le_pow_right (by decide) (by omega)
  exact Nat.lt_of_lt_of_le h1 h3
def readN (l : List UInt8) : Nat := if l.length = 8 then be l else 0
attribute [local irreducible] vc vcOps seqK blockK loopK retK retG retI loopV Plain CallOK CallIn bodied VS vcAny dropG backK brK loopPK IntKind.wrap
set_option maxRecDepth 100000
theorem readnum_ok (l : List UInt8) (F : Hp) : Plain Try.prog F 158 [S l] (pair (u64 (readN l : Nat)) (i64 (if l.length = 8 then 0 else 3))) := by
  refine plain_vc (N := 23) (rv := [.tmp 2, .tmp 3]) tbok mixed Try.func158 rfl rfl rfl rfl rfl ?_
  (refine run ?_; repeat intro b)
  refine s_if _ rfl (fun h => ?_) (fun h => ?_)
  · have hne : ¬ l.length = 8 := by simp at h; omega
    (refine run ?_; repeat intro b)
    simp only [tupV, readN, if_neg hne]
    rfl
  · have hl : l.length = 8 := by simp at h; omega
    (refine run ?_; repeat intro b)
    rw [bl_S]
    refine s_loopP (fun k : Nat => k ≤ 8) (fun k => ⟨[(0, .v (S l)), (4, .v (u64 (be (l.take k) : Nat))), (10, .v (i64 (l.length : Nat))), (11, .v (i64 (k : Nat)))], F, [], 0⟩) (fun k => 8 - k) 0 (Nat.zero_le _) (VS.keepN [0, 4, 10, 11] rfl rfl) ?_
    intro k hk
    (refine run ?_; repeat intro b)
    refine s_if _ rfl (fun h2 => ?_) (fun h2 => ?_)
    · have hlt : k < 8 := by simp at h2; omega
      (refine run ?_; repeat intro b)
      refine s_pureO rfl rfl rfl ⟨by omega, by rw [bl_S]; omega⟩ ?_
      rw [byte_get l k (by omega)]
      (refine run ?_; repeat intro b)
      rw [wrap_succ (by omega), or_val _ _ (take_be_lt l k hl hlt) (l[k].toNat_lt)]
      refine s_loopPn (k + 1) hlt (by omega) (VS.keepN [0, 4, 10, 11] rfl ?_)
      rw [List.take_succ_eq_append_getElem (by omega), be_snoc]
    · have hge : k = 8 := by simp at h2; omega
      subst hge
      (refine run ?_; repeat intro b)
      rw [List.take_of_length_le (by omega)]
      simp only [tupV, readN, if_pos hl]
theorem numread_ok (l : List UInt8) (F : Hp) : Plain Try.prog F 129 [S l] (pair (u64 (readN l : Nat)) (.bool (decide (l.length = 8)))) := by
  refine plain_vc (N := 21) (rv := [.tmp 2, .tmp 3]) tbok mixed Try.func129 rfl rfl rfl rfl rfl ?_
  (refine run ?_; repeat intro b)
  refine s_if _ rfl (fun h => ?_) (fun h => ?_)
  · have hne : ¬ l.length = 8 := by simp at h; omega
    (refine run ?_; repeat intro b)
    simp only [tupV, readN, if_neg hne, decide_eq_false hne]
    rfl
  · have hl : l.length = 8 := by simp at h; omega
    (refine run ?_; repeat intro b)
    refine s_loopP (fun k : Nat => k ≤ 8) (fun k => ⟨[(0, .v (S l)), (4, .v (u64 (be (l.take k) : Nat))), (9, .v (i64 (k : Nat)))], F, [], 0⟩) (fun k => 8 - k) 0 (Nat.zero_le _) (VS.keepN [0, 4, 9] rfl rfl) ?_
    intro k hk
    (refine run ?_; repeat intro b)
    refine s_if _ rfl (fun h2 => ?_) (fun h2 => ?_)
    · have hlt : k < 8 := by simp at h2; omega
      (refine run ?_; repeat intro b)
      refine s_pureO rfl rfl rfl ⟨by omega, by rw [bl_S]; omega⟩ ?_
      rw [byte_get l k (by omega)]
      (refine run ?_; repeat intro b)
      have e : IntKind.u64.wrap (IntKind.u64.wrap (256 * ((be (l.take k) : Nat) : Int)) + IntKind.u64.wrap ((l[k].toNat : Nat) : Int)) = ((256 * be (l.take k) + l[k].toNat : Nat) : Int) := by
        have h3 := take_be_lt l k hl hlt
        have h4 : l[k].toNat < 256 := l[k].toNat_lt
        simp only [u64w]
        omega
      rw [wrap_succ (by omega), e]
      refine s_loopPn (k + 1) hlt (by omega) (VS.keepN [0, 4, 9] rfl ?_)
      rw [List.take_succ_eq_append_getElem (by omega), be_snoc]
    · have hge : k = 8 := by simp at h2; omega
      subst hge
      (refine run ?_; repeat intro b)
      rw [List.take_of_length_le (by omega)]
      simp only [tupV, readN, if_pos hl, decide_eq_true hl]
end Go.Proofs.Ythkmfihbpbehfaa
