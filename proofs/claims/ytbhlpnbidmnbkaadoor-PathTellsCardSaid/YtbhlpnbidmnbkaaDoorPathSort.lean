/-
Package path: Sort, Bit, Common: the walks.
-/
import Derived.Test.YtbhlpnbidmnbkaaDoorSortFn
import Derived.Test.YtbhlpnbidmnbkaaDoorSetIdx
import Derived.Test.YtbhlpnbidmnbkaaDoorSetFwK
import Derived.Test.YtbhlpnbidmnbkaaDoorFwN
namespace Go.Proofs.YtbhlpnbidmnbkaaDoor
set_option linter.unusedVariables false
set_option linter.unusedSimpArgs false
open Go.TR
def sortE (l : List (List UInt8)) : Int := if l.any (fun s => !goodName s) = true then 3 else 0
def sortO (l : List (List UInt8)) : List (List UInt8) := if sortE l = 0 then ordN l else []
theorem str_one' (l : List (List UInt8)) : ∀ x ∈ l.map S, Go.TR.one (.v x) = true := fun x hx => by
  obtain ⟨s, _, rfl⟩ := List.mem_map.1 hx
  rfl
theorem sort_some {l : List (List UInt8)} : Lib.compact (sortN l) = ordN l := sort_compact l
theorem sortN_mem {l : List (List UInt8)} {s : List UInt8} : s ∈ sortN l ↔ s ∈ l := (sortN_perm l).mem_iff
theorem bitw {n : Nat} (h : n = 48 ∨ n = 49) : IntKind.i64.wrap (IntKind.u8.wrap ((n : Int) - 48)) = (n : Int) - 48 := by
  rcases h with rfl | rfl <;> decide
attribute [local irreducible] vc vcOps seqK blockK loopK retK retG retI loopV Plain CallOK CallIn bodied VS vcAny dropG backK brK loopPK IntKind.wrap
attribute [local irreducible] sortN ordN goodName pathN commonN
set_option maxRecDepth 100000
set_option maxHeartbeats 4000000
/-- slices.Clone: a row of the caller's own. -/
theorem clone_nm (cs : List Value) (n : Nat) {p : Option Addr} {c : Nat} {F : Hp} (hl : cs.length = n * 1) (hf : Frow F p cs) (h1 : ∀ x ∈ cs, Go.TR.one (.v x) = true) (hb : n * 16 ≤ 140737488355328) : CallOK Tryd.prog F 48 [.slice p n c] (fun x _ new => RowBack 9 1 cs n x new) := by
  refine call_vc (N := 8) (rv := [.tmp 2]) tbok mixed Tryd.func48 rfl rfl rfl rfl rfl ?_
  (refine run ?_; repeat intro b)
  refine s_snil (b := p.isNone) tbok rfl rfl rfl ?_
  cases p with
  | none =>
    have hn : n = 0 := by
      rcases Nat.eq_zero_or_pos n with h | h
      · exact h
      · have := frow_some hf (j := 0) (by rw [hl]; omega)
        cases this
    subst hn
    (refine run ?_; repeat intro b)
    refine s_retG (VS.id ⟨_, rfl, .inl ⟨rfl, rfl, none, rfl⟩⟩)
  | some a =>
    (refine run ?_; repeat intro b)
    refine s_appR rfl rfl rfl rfl rfl rfl rfl rfl (src_frz hl hf) (one_v _ h1) (fun h => by cases h) (Nat.le_refl 0) rfl (Nat.zero_le _) (by show (0 + n) * 16 ≤ _; omega) (fun hn => ?_) (fun hn b2 c2 hc2 => ?_)
    · subst hn
      (refine run ?_; repeat intro b)
      refine s_retG ?_
      refine VS.freeze 0 [2] rfl (cs := []) rfl rfl rfl fun F' hs1 hf1 => VS.id ⟨_, rfl, .inl ⟨rfl, rfl, _, rfl⟩⟩
    · (refine run ?_; repeat intro b)
      simp only [Nat.zero_add] at hc2 ⊢
      refine s_retGf (VSf.ren (nx' := 1) [(1, 0)] [2] [(0, ⟨some b2, cs.map EV.v, 9, c2 * 1⟩)] ⟨rfl, ⟨_, rfl, rfl, rfl, rfl, .inl ⟨rfl, fun e he => all_v _ e he⟩⟩, trivial⟩ rfl rfl rfl rfl rfl rfl ⟨_, rfl, .inr ⟨hn, b2, c2, hc2, rfl, rfl⟩⟩)
theorem notname_ok (s : List UInt8) (hs : s.length ≤ 4611686018427387904) (F : Hp) : Plain Tryd.prog F 47 [S s] (.bool (!goodName s)) := by
  refine plain_vc (N := 6) (rv := [.tmp 2]) tbok mixed Tryd.func47 rfl rfl rfl rfl rfl ?_
  (refine run ?_; repeat intro b)
  refine s_plain _ rfl rfl rfl bd23 rfl (name_ok s hs F) ?_
  (refine run ?_; repeat intro b)
  rfl
theorem pathsort_ok (l : List (List UInt8)) (hn : l.length * 16 ≤ 140737488355328) (hs : ∀ s ∈ l, s.length ≤ 4611686018427387904) {p : Option Addr} {c : Nat} {F : Hp} (hf : Frow F p (l.map S)) : CallF Tryd.prog F 22 [.slice p l.length c] (fun x F' => ∃ p' c', x = pair (.slice p' (sortO l).length c') (i64 (sortE l)) ∧ Frow F' p' ((sortO l).map S)) := by
  refine call_vc (N := 13) (rv := [.tmp 2, .tmp 3]) tbok mixed Tryd.func22 rfl rfl rfl rfl rfl ?_
  (refine run ?_; repeat intro b)
  refine s_plain _ rfl rfl rfl bd25 rfl (strs_has (fun s => !goodName s) 47 #[] bd47 l hf (by omega) (fun x hx => notname_ok x (hs x hx) F)) ?_
  (refine run ?_; repeat intro b)
  refine s_if (l.any fun s => !goodName s) rfl (fun h => ?_) (fun h => ?_)
  · have e1 : sortE l = 3 := if_pos h
    have e2 : sortO l = [] := by unfold sortO; rw [if_neg (by rw [e1]; decide)]
    rw [e1, e2]
    (refine run ?_; repeat intro b)
    exact s_retG (VS.id ⟨_, rfl, rfl, none, 0, rfl, frow_nil _ _⟩)
  · have e1 : sortE l = 0 := if_neg (by rw [h]; decide)
    have e2 : sortO l = ordN l := by unfold sortO; rw [if_pos e1]
    rw [e1, e2]
    (refine run ?_; repeat intro b)
    refine s_callR (R := fun _ cs => cs = l.map S) (fun x F' new h => ⟨_, h, rfl⟩) rfl rfl rfl bd48 rfl (clone_nm (l.map S) l.length (by rw [List.length_map, Nat.mul_one]) hf (str_one' _) hn) (fun hk0 F1 p1 cs hF1 hcs => ?_) (fun hk1 F1 b1 c1 cs hF1 hc1 hcs => ?_)
    · have hnil : l = [] := List.eq_nil_of_length_eq_zero hk0
      subst hnil
      have e3 : ordN [] = [] := by unfold ordN; rfl
      (refine run ?_; repeat intro b)
      refine s_plain _ rfl rfl rfl bd49 rfl (sort0_ok _ _ F1) ?_
      (refine run ?_; repeat intro b)
      refine s_plain _ rfl rfl rfl bd53 rfl (compact0_ok _ _ F1) ?_
      (refine run ?_; repeat intro b)
      rw [e3]
      exact s_retG (VS.id ⟨_, rfl, rfl, _, _, rfl, frow_nil _ _⟩)
    · subst hcs
      have hsl := sortN_len l
      (refine run ?_; repeat intro b)
      refine s_in rfl rfl rfl bd49 rfl (sortfn_in l hs (by omega) rfl) ?_
      rintro _ F2 _ _ _ _ ⟨rfl, e2, rfl, rfl⟩
      rw [e2]
      clear e2
      have hci := compact_in (sortN l) (by omega) (F := F1) (rs := setR [(0, ⟨some b1, (l.map S).map EV.v, 9, c1 * 1⟩)] 0 ⟨some b1, ((sortN l).map S).map .v, 9, c1 * 1⟩) (nx := 1) (id := 0) (b := b1) (cap := c1 * 1) (c := c1) (ty := 9) (by omega) rfl
      rw [hsl, sort_some] at hci
      generalize ordN l = o at hci
      (refine run ?_; repeat intro b)
      refine s_in rfl rfl rfl bd53 rfl hci ?_
      rintro _ _ _ _ _ _ ⟨rfl, rfl, rfl, rfl⟩
      (refine run ?_; repeat intro b)
      refine s_retG ?_
      refine VS.freeze 0 [2, 3] rfl (cs := (o ++ List.replicate (l.length - o.length) []).map S) (allV_map_v _) rfl rfl fun F' hs1 hf1 => VS.id ⟨_, rfl, rfl, _, _, rfl, ?_⟩
      have := frow_take hf1 (o.map S).length
      rwa [List.map_append, List.take_left] at this
def bitE (p : List UInt8) (k : Int) : Int := if p.length = 16 ∧ p.all (inS [48, 49]) = true then (if 0 ≤ k ∧ k ≤ 15 then 0 else 4) else 3
def bitO (p : List UInt8) (k : Int) : Int := if bitE p k = 0 then (((p.getD k.toNat 0).toNat : Nat) : Int) - 48 else 0
theorem in01 {c : UInt8} (h : inS [48, 49] c = true) : c.toNat = 48 ∨ c.toNat = 49 := by
  unfold inS at h
  simp only [List.any_cons, List.any_nil, Bool.or_false, Bool.or_eq_true, beq_iff_eq] at h
  rcases h with h | h
  · exact .inl h.symm
  · exact .inr h.symm
theorem bit_bad (p : List UInt8) : ((((p.length : Nat) : Int) != 16) || !decide (trimL (inS [48, 49]) (trimR (inS [48, 49]) p) = [])) = !decide (p.length = 16 ∧ p.all (inS [48, 49]) = true) := by
  rw [Bool.eq_iff_iff]
  simp only [Bool.or_eq_true, bne_iff_ne, Bool.not_eq_true', decide_eq_false_iff_not, trim_nil]
  constructor
  · rintro (h | h) ⟨h1, h2⟩
    · exact h (by omega)
    · exact h h2
  · intro h
    by_cases h1 : p.length = 16
    · exact .inr fun h2 => h ⟨h1, h2⟩
    · exact .inl (by omega)
theorem pathbit_ok (p : List UInt8) (k : Int) (hp : p.length ≤ 4611686018427387904) (F : Hp) : Plain Tryd.prog F 21 [S p, i64 k] (pair (i64 (bitO p k)) (i64 (bitE p k))) := by
  refine plain_vc (N := 27) (rv := [.tmp 4, .tmp 5]) tbok mixed Tryd.func21 rfl rfl rfl rfl rfl ?_
  (refine run ?_; repeat intro b)
  refine s_gplain _ rfl rfl rfl rfl bd32 rfl rfl (fun _ => trim_ok p hp F) ?_
  (refine run ?_; repeat intro b)
  refine s_if (!decide (p.length = 16 ∧ p.all (inS [48, 49]) = true)) ?_ (fun h => ?_) (fun h => ?_)
  · refine congrArg (fun b => some (EV.v (.bool b))) ?_
    rw [bpick_or, ← bit_bad]
    rfl
  · have hc : ¬ (p.length = 16 ∧ p.all (inS [48, 49]) = true) := by simpa only [Bool.not_eq_true', decide_eq_false_iff_not] using h
    have e1 : bitE p k = 3 := if_neg hc
    have e2 : bitO p k = 0 := by unfold bitO; rw [if_neg (by rw [e1]; decide)]
    rw [e1, e2]
    (refine run ?_; repeat intro b)
    rfl
  · have hc : p.length = 16 ∧ p.all (inS [48, 49]) = true := by simpa only [Bool.not_eq_false', decide_eq_true_eq] using h
    have e0 : bitE p k = if 0 ≤ k ∧ k ≤ 15 then 0 else 4 := if_pos hc
    (refine run ?_; repeat intro b)
    refine s_if (!decide (0 ≤ k ∧ k ≤ 15)) ?_ (fun h2 => ?_) (fun h2 => ?_)
    · refine congrArg (fun b => some (EV.v (.bool b))) ?_
      rw [bpick_or, Bool.eq_iff_iff]
      simp only [Bool.or_eq_true, decide_eq_true_eq, Bool.not_eq_true', decide_eq_false_iff_not]
      omega
    · have hk : ¬ (0 ≤ k ∧ k ≤ 15) := by simpa only [Bool.not_eq_true', decide_eq_false_iff_not] using h2
      have e1 : bitE p k = 4 := by rw [e0, if_neg hk]
      have e2 : bitO p k = 0 := by unfold bitO; rw [if_neg (by rw [e1]; decide)]
      rw [e1, e2]
      (refine run ?_; repeat intro b)
      rfl
    · have hk : 0 ≤ k ∧ k ≤ 15 := by simpa only [Bool.not_eq_false', decide_eq_true_eq] using h2
      have e1 : bitE p k = 0 := by rw [e0, if_pos hk]
      have hlt : k.toNat < p.length := by omega
      have hin : inS [48, 49] p[k.toNat] = true := List.all_eq_true.1 hc.2 _ (List.getElem_mem hlt)
      have e2 : bitO p k = ((p[k.toNat].toNat : Nat) : Int) - 48 := by unfold bitO; rw [if_pos e1]; simp [List.getD, hlt]
      have h01 := in01 hin
      have hget : (bl (mkB p)).getD k.toNat 0 = p[k.toNat] := by rw [bl_S]; simp [List.getD, hlt]
      rw [e1, e2]
      (refine run ?_; repeat intro b)
      refine s_pureO rfl rfl rfl ⟨by omega, by rw [bl_S]; omega⟩ ?_
      rw [hget]
      have ew := bitw h01
      (refine run ?_; repeat intro b)
      rw [ew]
      rfl
theorem common_ok (p q : List UInt8) (hp : p.length ≤ 4611686018427387904) (hq : q.length ≤ 4611686018427387904) (F : Hp) : Plain Tryd.prog F 24 [S p, S q] (i64 (commonN p q : Nat)) := by
  refine plain_vc (N := 28) (rv := [.tmp 4]) tbok mixed Tryd.func24 rfl rfl rfl rfl rfl ?_
  (refine run ?_; repeat intro b)
  refine s_loopP (fun k : Nat => k ≤ p.length ∧ k ≤ q.length ∧ p.take k = q.take k) (fun k => ⟨[(0, .v (S p)), (1, .v (S q)), (5, .v (i64 (k : Nat)))], F, [], 0⟩) (fun k => p.length - k) 0 ⟨Nat.zero_le _, Nat.zero_le _, rfl⟩ (VS.keepN [0, 1, 5] rfl rfl) ?_
  rintro k ⟨h1, h2, ht⟩
  have hb : bpick (decide (((k : Nat) : Int) < (((bl (mkB p)).length : Nat) : Int))) (decide (((k : Nat) : Int) < (((bl (mkB q)).length : Nat) : Int))) false = true → k < p.length ∧ k < q.length := by
    rw [bpick_and, bl_S, bl_S]
    simp
  (refine run ?_; repeat intro b)
  refine s_regiond (by kernel_rfl) ?_
  (refine run ?_; repeat intro b)
  refine s_gpureO rfl rfl rfl rfl rfl (fun hg => ⟨by omega, by have := (hb hg.1).1; rw [bl_S]; omega⟩) ?_
  (refine run ?_; repeat intro b)
  refine s_gpureO rfl rfl rfl rfl rfl (fun hg => ⟨by omega, by have := (hb hg.1).2; rw [bl_S]; omega⟩) ?_
  (refine run ?_; repeat intro b)
  rw [Int.toNat_natCast]
  refine s_if (decide (k < p.length ∧ k < q.length ∧ p.getD k 0 = q.getD k 0)) ?_ (fun h => ?_) (fun h => ?_)
  · refine congrArg (fun b => some (EV.v (.bool b))) ?_
    rw [bpick_and, bpick_and, bl_S, bl_S, Bool.eq_iff_iff]
    simp only [Bool.and_eq_true, decide_eq_true_eq, Int.ofNat_lt, beq_iff_eq, Int.ofNat_inj, UInt8.toNat_inj]
    exact and_assoc
  · obtain ⟨g1, g2, g3⟩ := of_decide_eq_true h
    have g4 : p[k] = q[k] := by simpa [List.getD, g1, g2] using g3
    (refine run ?_; repeat intro b)
    rw [wrap_succ (by omega)]
    refine s_loopPn (k + 1) ⟨g1, g2, ?_⟩ (by omega) (VS.keepN [0, 1, 5] rfl rfl)
    exact take_succ_eq ht g1 g2 g4
  · have hn : ¬ (k < p.length ∧ k < q.length ∧ p.getD k 0 = q.getD k 0) := of_decide_eq_false h
    have hc : commonN p q = k := common_stop h1 h2 ht (by
      by_cases g1 : k < p.length
      · by_cases g2 : k < q.length
        · refine .inr (.inr ⟨g1, g2, fun e => hn ⟨g1, g2, ?_⟩⟩)
          simp [List.getD, g1, g2, e]
        · exact .inr (.inl (by omega))
      · exact .inl (by omega))
    rw [hc]
    (refine run ?_; repeat intro b)
    rfl
end Go.Proofs.YtbhlpnbidmnbkaaDoor
