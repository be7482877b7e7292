/-
Package serve: read: what is read; behind its loop over the chunks.
-/
import Derived.Test.YthkmfihbpbehfaaSetHeadRead
import Derived.Test.YthkmfihbpbehfaaSetFwR
import Derived.Test.YthkmfihbpbehfaaSetChunk
import Derived.Test.YthkmfihbpbehfaaFwV
import Derived.Test.YthkmfihbpbehfaaFwN
namespace Go.Proofs.Ythkmfihbpbehfaa
set_option linter.unusedVariables false
set_option linter.unusedSimpArgs false
open Go.TR
/-- One number of the sides. -/
def pieceN (t : List UInt8) (k : Nat) : Nat := readN ((t.take (8 * k + 8)).drop (8 * k))
def sidesR (t : List UInt8) (k : Nat) : List Nat := (List.range k).map (pieceN t)
theorem sidesR_succ (t : List UInt8) (k : Nat) : sidesR t (k + 1) = sidesR t k ++ [pieceN t k] := by
  unfold sidesR
  rw [List.range_succ, List.map_append]
  rfl
theorem sidesR_len (t : List UInt8) (k : Nat) : (sidesR t k).length = k := by unfold sidesR; rw [List.length_map, List.length_range]
/-- Names and values, two by two. -/
def entR (L : List (List UInt8)) (k : Nat) : Entry := ⟨L.getD (2 * k) [], L.getD (2 * k + 1) []⟩
def entsR (L : List (List UInt8)) (k : Nat) : List Entry := (List.range k).map (entR L)
theorem entsR_succ (L : List (List UInt8)) (k : Nat) : entsR L (k + 1) = entsR L k ++ [entR L k] := by
  unfold entsR
  rw [List.range_succ, List.map_append]
  rfl
theorem entsR_len (L : List (List UInt8)) (k : Nat) : (entsR L k).length = k := by unfold entsR; rw [List.length_map, List.length_range]
/-- What is read. -/
def rdP (l1 l2 : List UInt8) (L : List (List UInt8)) : Prf := ⟨l1, entsR L (L.length / 2), sidesR l2 16⟩
def rdOk (l0 l2 l3 : List UInt8) : Bool := decide (l2.length = 128) && decide (readE l0 = 0) && decide (getE l3 = 0) && decide ((getL l3).length % 2 = 0)
def rdO (s : List UInt8) : Option (Head × Prf) := if getE s = 0 then (match getL s with
  | [l0, l1, l2, l3] => if rdOk l0 l2 l3 = true then some (readH l0, rdP l1 l2 (getL l3)) else none
  | _ => none) else none
def zrep : Value := .agg #[i64 0, u64 0, u64 0, i64 0, S [], .slice none 0 0, .slice none 0 0]
/-- What is handed back. -/
def RdQ (s : List UInt8) (x : Value) (F' : Hp) : Prop := match rdO s with
  | some (h, p) => ∃ a, x = pair (repV h p a) (.bool true) ∧ p.at F' a
  | none => x = pair zrep (.bool false)
theorem rd_none {s : List UInt8} {F' : Hp} (h : rdO s = none) : RdQ s (pair zrep (.bool false)) F' := by unfold RdQ; rw [h]
theorem getE_cases (s : List UInt8) : getE s = 0 ∨ getE s = 2 ∨ getE s = 3 := by
  unfold getE
  split
  · exact .inr (.inl rfl)
  · split
    · split <;> simp
    · simp
theorem rd_err {s : List UInt8} (h : getE s ≠ 0) : rdO s = none := by unfold rdO; rw [if_neg h]
theorem rd_len {s : List UInt8} (h : (getL s).length ≠ 4) : rdO s = none := by
  unfold rdO
  split
  · split
    · rename_i e
      rw [e] at h
      exact absurd rfl h
    · rfl
  · rfl
theorem rd_four {s l0 l1 l2 l3 : List UInt8} (h0 : getE s = 0) (h : getL s = [l0, l1, l2, l3]) : rdO s = if rdOk l0 l2 l3 = true then some (readH l0, rdP l1 l2 (getL l3)) else none := by
  unfold rdO
  rw [if_pos h0, h]
theorem partsN_part : ∀ (n : Nat) (s : List UInt8) (L : List (List UInt8)), partsN n s = some L → ∀ x ∈ L, x.length ≤ s.length
  | n, [], L, h, x, hx => by
    rw [partsN_nil] at h
    cases h
    cases hx
  | 0, c :: t, L, h, x, hx => by cases h
  | n + 1, c :: t, L, h, x, hx => by
    simp only [partsN] at h
    cases hf : firstO (c :: t) with
    | none => rw [hf] at h; cases h
    | some q =>
      obtain ⟨p, r⟩ := q
      have hlt := firstO_lt hf
      rw [hf] at h
      simp only [Option.map_eq_some_iff] at h
      obtain ⟨L', h1, rfl⟩ := h
      rcases List.mem_cons.1 hx with rfl | hx
      · omega
      · have := partsN_part n r L' h1 x hx
        omega
theorem getL_part {s x : List UInt8} (h : x ∈ getL s) : x.length ≤ 600 := by
  unfold getL at h
  split at h
  · cases h
  · split at h
    · rename_i hs l hl
      split at h
      · have := partsN_part _ _ _ hl x h
        omega
      · cases h
    · cases h
theorem fcell_spot (F : Hp) (b off sp : Nat) (v : Value) : ¬ Pcell F (padd (some ⟨b, off, some sp⟩) 0) = some v := by
  intro h
  unfold Pcell padd at h
  simp only [Option.map_some, Option.bind_some, Fcell] at h
  split at h
  · split at h
    · simp [Addr.add] at h
    · rename_i hs
      have : Addr.add ⟨b, off, some sp⟩ 0 = ⟨b, off, some sp⟩ := rfl
      rw [this] at hs
      simp at hs
  · cases h
theorem getL_60 (s : List UInt8) : (getL s).length ≤ 60 := by
  unfold getL
  split
  · simp
  · split
    · split
      · assumption
      · simp
    · simp
theorem readE_cases (s : List UInt8) : readE s = 0 ∨ readE s = 3 := by
  unfold readE
  split
  · split <;> simp
  · simp
theorem rdOk_no1 {l0 l2 l3 : List UInt8} (h : readE l0 ≠ 0) : rdOk l0 l2 l3 = false := by unfold rdOk; rw [decide_eq_false h]; simp
theorem rdOk_no2 {l0 l2 l3 : List UInt8} (h : getE l3 ≠ 0) : rdOk l0 l2 l3 = false := by unfold rdOk; rw [decide_eq_false h]; simp
theorem rdOk_no3 {l0 l2 l3 : List UInt8} (h : (getL l3).length % 2 ≠ 0) : rdOk l0 l2 l3 = false := by unfold rdOk; rw [decide_eq_false h]; simp
theorem rdOk_yes {l0 l2 l3 : List UInt8} (h1 : l2.length = 128) (h2 : readE l0 = 0) (h3 : getE l3 = 0) (h4 : (getL l3).length % 2 = 0) : rdOk l0 l2 l3 = true := by unfold rdOk; rw [decide_eq_true h1, decide_eq_true h2, decide_eq_true h3, decide_eq_true h4]; rfl
def muW (l : List Nat) : List EV := (l.map mu).map EV.v
theorem muW_nil : muW [] = [] := rfl
theorem muW_len (l : List Nat) : (muW l).length = l.length := by unfold muW; simp
theorem muW_all (l : List Nat) : ∀ e ∈ muW l, ∃ v, e = .v v := all_v _
theorem muW_snoc (l : List Nat) (x : Nat) : (muW l).take (l.length * 1) ++ [EV.v (mu x)] = muW (l ++ [x]) := by
  rw [List.take_of_length_le (by rw [muW_len]; omega)]
  unfold muW
  simp
def enW (l : List Entry) : List EV := (l.flatMap Entry.row).map EV.v
theorem enW_nil : enW [] = [] := rfl
theorem enW_len (l : List Entry) : (enW l).length = l.length * 2 := by unfold enW; rw [List.length_map, flat_len entry_row]
theorem enW_all (l : List Entry) : ∀ e ∈ enW l, ∃ v, e = .v v := all_v _
theorem enW_snoc (l : List Entry) (x : Entry) : (enW l).take (l.length * 2) ++ x.row.map EV.v = enW (l ++ [x]) := by
  rw [List.take_of_length_le (by rw [enW_len]; exact Nat.le_refl _)]
  unfold enW
  simp
theorem pieceN_eq (t : List UInt8) (k : Nat) : readN ((t.take (8 * k + 8)).drop (8 * k)) = pieceN t k := rfl
theorem sidesR_zero (t : List UInt8) : sidesR t 0 = [] := rfl
theorem entsR_zero (L : List (List UInt8)) : entsR L 0 = [] := rfl
/-- The entries of some chunks. -/
def entsX (L : List (List UInt8)) {n : Nat} (pre : List (Fin n)) : List Entry := pre.map fun x => entR L x.val
theorem entsX_nil (L : List (List UInt8)) {n : Nat} : entsX L ([] : List (Fin n)) = [] := rfl
theorem entsX_len (L : List (List UInt8)) {n : Nat} (pre : List (Fin n)) : (entsX L pre).length = pre.length := by unfold entsX; rw [List.length_map]
theorem entsX_snoc (L : List (List UInt8)) {n : Nat} (pre : List (Fin n)) (x : Fin n) : entsX L (pre ++ [x]) = entsX L pre ++ [entR L x.val] := by unfold entsX; rw [List.map_append]; rfl
theorem entsX_all (L : List (List UInt8)) (n : Nat) : entsX L (fst n n) = entsR L n := by
  unfold entsX entsR fst
  rw [List.take_of_length_le (by simp), show (fun x : Fin n => entR L x.val) = entR L ∘ Fin.val from rfl, ← List.map_map]
  congr 1
  apply List.ext_getElem <;> simp
theorem padd_none (b off j : Nat) : padd (some ⟨b, off, none⟩) j = some ⟨b, off + j, none⟩ := by
  unfold padd Addr.add
  simp only [Option.map_some]
  split
  · rename_i h; rw [h]; rfl
  · rfl
theorem allV_frz (rs : RL) (b id : Nat) (l : List Value) : allV rs (frzL b id (l.map EV.v)) = some l := by
  have : frzL b id (l.map EV.v) = l.map EV.v := by
    induction l with
    | nil => rfl
    | cons x l ih =>
      show _ :: frzL b id (l.map EV.v) = _
      rw [ih]; rfl
  rw [this]
  exact allV_map_v _
/-- A part of the function's code. -/
noncomputable def readCode (p : List Nat) : Code := partOf (Try.f125.body.getD .skip) ([1, 1, 1, 1, 1, 1, 1, 1] ++ p)
attribute [local irreducible] vc vcOps seqK blockK loopK retK retG retI loopV Plain CallOK CallIn bodied VS vcAny dropG backK brK loopPK IntKind.wrap
attribute [local irreducible] getE getL readE readH readN rdO RdQ sidesR entsR pieceN muW enW entsX owes rfK
set_option maxRecDepth 100000
set_option maxHeartbeats 4000000
theorem read_tail (s l0 l1 l2 l3 : List UInt8) (hrd : rdO s = some (readH l0, rdP l1 l2 (getL l3))) (h8 : (getL l3).length % 2 = 0) {F F3 : Hp} {w W : World} {a : Act} {p3 : Option Addr} {c3 q1 q2 b2 b3 b9 cap : Nat} (hf3 : Frow F3 p3 ((getL l3).map S)) (hc3 : (getL l3).length ≤ c3)
    (m1 : Fcell F3 ⟨q1, 0, none⟩ = some (.slice p3 (getL l3).length c3)) (m2 : Fcell F3 ⟨q2, 0, none⟩ = some (.int .i64 2))
    (hS : Sat ⟨w, F, F, [], 0, 0⟩ 110 ⟨[(2, .loc 0 0), (9, .loc 2 0), (93, .v (.func (.func 183) #[] #[.pointer (some ⟨q1, 0, none⟩), .pointer (some ⟨q2, 0, none⟩)]))], F3, [(4, ⟨none, [], 107, 0⟩), (3, ⟨some b3, muW (sidesR l2 16), 26, cap * 1⟩), (2, ⟨some b9, [.v (i64 (readH l0).epoch), .v (u64 ((readH l0).root : Nat)), .v (u64 ((readH l0).prev : Nat)), .v (i64 (readH l0).at_), .v (S l1), .row 4 0 0 0, .row 3 0 16 cap], 34, 7⟩), (0, ⟨some b2, [.v (i64 0), .v (u64 0), .v (u64 0), .v (i64 0), .v (S []), .v (.slice none 0 0), .v (.slice none 0 0)], 34, 7⟩)], 5⟩ a W) :
    (readCode [0, 1]).wp Try.prog (Exit.then ((readCode [1]).wp Try.prog (bodyPostM Fence.wide 5 Try.prog Try.f125 (owes w F fun x F' _ => RdQ s x F'))) (bodyPostM Fence.wide 5 Try.prog Try.f125 (owes w F fun x F' _ => RdQ s x F'))) a W := by
  obtain ⟨n, hn⟩ : ∃ n, (getL l3).length = 2 * n := ⟨(getL l3).length / 2, by omega⟩
  have h60 := getL_60 l3
  obtain ⟨b, off, hp3⟩ : ∃ b off, 0 < n → p3 = some ⟨b, off, none⟩ := by
    rcases p3 with _ | ⟨b, off, sp⟩
    · refine ⟨0, 0, fun h => ?_⟩
      have := frow_some hf3 (j := 0) (by rw [List.length_map]; omega)
      cases this
    · refine ⟨b, off, fun h => ?_⟩
      obtain ⟨u, hu⟩ : ∃ u, ((getL l3).map S)[0]? = some u := ⟨_, List.getElem?_eq_getElem (by rw [List.length_map]; omega)⟩
      have h1 := hf3 0 u hu
      cases sp with
      | none => rfl
      | some sp => exact absurd h1 (fcell_spot _ _ _ _ _)
  have hle3 : F3.le W := hS.wok.le
  rw [hn] at m1
  show (readCode [0, 1]).wp Try.prog _ a W
  refine wp_block (rf_wp (N := 110) tbok mixed (by decide) (by decide) (hS.env 93 _ _ rfl rfl rfl) (fun args w => rfl) (chunk_stops Fence.wide 4 trivial rfl (by decide) q1 q2 b off c3 n (by omega) (by omega) p3 hp3 F3 W hle3 m1 m2)
    (fun pre (q : Option Nat × Nat) => [(4, ⟨q.1, enW (entsX (getL l3) pre), 107, q.2 * 2⟩), (3, ⟨some b3, muW (sidesR l2 16), 26, cap * 1⟩), (2, ⟨some b9, [.v (i64 (readH l0).epoch), .v (u64 ((readH l0).root : Nat)), .v (u64 ((readH l0).prev : Nat)), .v (i64 (readH l0).at_), .v (S l1), .row 4 0 pre.length q.2, .row 3 0 16 cap], 34, 7⟩), (0, ⟨some b2, [.v (i64 0), .v (u64 0), .v (u64 0), .v (i64 0), .v (S []), .v (.slice none 0 0), .v (.slice none 0 0)], 34, 7⟩)]) 5
    (fun pre q => (q.1 = none → pre.length = 0 ∧ q.2 = 0) ∧ pre.length ≤ q.2) (none, 0) ⟨fun _ => ⟨rfl, rfl⟩, Nat.le_refl _⟩ (by simp only [List.length_nil, entsX_nil, enW_nil]; exact hS) ?_ (by kernel_rfl) 0 (Nat.le_refl _) ?_ ?_)
  · rintro pre ⟨blk, cp⟩ k e _ he
    simp only [lk_cons] at he
    repeat' split at he
    all_goals first | (cases he; rfl) | cases he
  · rintro pre x ⟨blk, cp⟩ F' ⟨g1, g2⟩ hlt hF'
    dsimp only at g1 g2 ⊢
    obtain rfl := hp3 (by omega)
    have hx := x.isLt
    have hr0 : Pcell F' (padd (some ⟨b, off + 2 * x.val, none⟩) 0) = some (S (entR (getL l3) x.val).name) := by
      have h1 := frow_sub hF' hf3 (2 * x.val) (S (entR (getL l3) x.val).name) (by
        rw [List.getElem?_map, List.getElem?_eq_getElem (by omega)]
        unfold entR
        rw [List.getD_eq_getElem?_getD, List.getElem?_eq_getElem (by omega)]
        rfl)
      rw [padd_none] at h1 ⊢
      exact h1
    have hr1 : Pcell F' (padd (some ⟨b, off + 2 * x.val, none⟩) 1) = some (S (entR (getL l3) x.val).value) := by
      have h1 := frow_sub hF' hf3 (2 * x.val + 1) (S (entR (getL l3) x.val).value) (by
        rw [List.getElem?_map, List.getElem?_eq_getElem (by omega)]
        show some _ = some (S ((getL l3).getD (2 * x.val + 1) []))
        rw [List.getD_eq_getElem?_getD, List.getElem?_eq_getElem (by omega)]
        rfl)
      rw [padd_none] at h1 ⊢
      exact h1
    unfold cenc
    (refine run ?_; repeat intro b)
    have hpl : (enW (entsX (getL l3) pre)).length = pre.length * 2 := by rw [enW_len, entsX_len]
    have hcells : (enW (entsX (getL l3) pre)).take (pre.length * 2) ++ (entR (getL l3) x.val).row.map EV.v = enW (entsX (getL l3) (pre ++ [x])) := by
      have := enW_snoc (entsX (getL l3) pre) (entR (getL l3) x.val)
      rw [entsX_len] at this
      rw [entsX_snoc, ← this]
    have hall : ∀ e ∈ (enW (entsX (getL l3) pre)).take (pre.length * 2) ++ (entR (getL l3) x.val).row.map EV.v, ∃ v, e = EV.v v := fun e he => by
      rw [hcells] at he
      exact enW_all _ e he
    refine s_regiona [] (by kernel_rfl) ?_
    refine s_firsts [3, 4, 5, 6, 7, 8, 9, 0, 1] (f' := 6) (by kernel_rfl) rfl rfl rfl ?_
    (refine run ?_; repeat intro b)
    refine s_pureO rfl rfl rfl ⟨by decide, by decide, rfl⟩ ?_
    refine s_load _ rfl rfl rfl rfl hr0 ?_
    (refine run ?_; repeat intro b)
    refine s_pureO rfl rfl rfl ⟨by decide, by decide, rfl⟩ ?_
    refine s_load _ rfl rfl rfl rfl hr1 ?_
    (refine run ?_; repeat intro b)
    refine s_two 2 10 (by kernel_rfl) rfl rfl rfl ?_ ?_
    · (refine run ?_; repeat intro b)
      refine s_br (Hp.sub.refl _) trivial ?_
      refine s_one 10 (by kernel_rfl) rfl rfl ?_
      (refine run ?_; repeat intro b)
      refine s_br (Hp.sub.refl _) trivial ?_
      refine s_one 11 (by kernel_rfl) rfl rfl ?_
      refine s_appR rfl rfl rfl rfl rfl rfl rfl rfl (src_row rfl rfl) (one_v _ (l := (entR (getL l3) x.val).row) (by simp [one, Entry.row])) g1 g2 rfl (by rw [hpl]; exact Nat.le_refl _) (by show _ * 32 ≤ _; omega) (fun h => by cases h) (fun _ b5 c5 hc5 => ?_)
      (refine run ?_; repeat intro b)
      refine s_br (Hp.sub.refl _) trivial ?_
      refine s_one 12 (by kernel_rfl) rfl rfl ?_
      (refine run ?_; repeat intro b)
      refine s_br (Hp.sub.refl _) trivial ?_
      refine s_one 13 (by kernel_rfl) rfl rfl ?_
      (refine run ?_; repeat intro b)
      refine s_br (Hp.sub.refl _) trivial ?_
      refine s_one 14 (by kernel_rfl) rfl rfl ?_
      (refine run ?_; repeat intro b)
      refine s_br (Hp.sub.refl _) trivial ?_
      refine s_stop (by kernel_rfl) ?_
      (refine run ?_; repeat intro b)
      refine rfK_n (VSf.ren (nx' := 5) [(6, 4), (3, 3), (2, 2), (0, 0)] [] [(4, ⟨some b5, enW (entsX (getL l3) (pre ++ [x])), 107, c5 * 2⟩), (3, ⟨some b3, muW (sidesR l2 16), 26, cap * 1⟩), (2, ⟨some b9, [.v (i64 (readH l0).epoch), .v (u64 ((readH l0).root : Nat)), .v (u64 ((readH l0).prev : Nat)), .v (i64 (readH l0).at_), .v (S l1), .row 4 0 (pre.length + 1) c5, .row 3 0 16 cap], 34, 7⟩), (0, ⟨some b2, [.v (i64 0), .v (u64 0), .v (u64 0), .v (i64 0), .v (S []), .v (.slice none 0 0), .v (.slice none 0 0)], 34, 7⟩)]
        ⟨rfl, ⟨_, rfl, rfl, rfl, rfl, .inl ⟨hcells.symm, hall⟩⟩, rfl, ⟨_, rfl, rfl, rfl, rfl, .inl ⟨rfl, muW_all _⟩⟩, rfl, ⟨_, rfl, rfl, rfl, rfl, .inr rfl⟩, rfl, ⟨_, rfl, rfl, rfl, rfl, .inr rfl⟩, trivial⟩ rfl rfl rfl rfl rfl rfl
        ⟨(some b5, c5), [], F', ⟨(fun h => by cases h), by rw [List.length_append]; exact hc5⟩, Hp.sub.refl _, by rw [List.length_append]; rfl⟩)
    · (refine run ?_; repeat intro b)
      refine s_br (Hp.sub.refl _) trivial ?_
      refine s_one 2 (by kernel_rfl) rfl rfl ?_
      (refine run ?_; repeat intro b)
      refine s_br (Hp.sub.refl _) trivial ?_
      refine s_one 11 (by kernel_rfl) rfl rfl ?_
      refine s_appR rfl rfl rfl rfl rfl rfl rfl rfl (src_row rfl rfl) (one_v _ (l := (entR (getL l3) x.val).row) (by simp [one, Entry.row])) g1 g2 rfl (by rw [hpl]; exact Nat.le_refl _) (by show _ * 32 ≤ _; omega) (fun h => by cases h) (fun _ b5 c5 hc5 => ?_)
      (refine run ?_; repeat intro b)
      refine s_br (Hp.sub.refl _) trivial ?_
      refine s_one 12 (by kernel_rfl) rfl rfl ?_
      (refine run ?_; repeat intro b)
      refine s_br (Hp.sub.refl _) trivial ?_
      refine s_one 13 (by kernel_rfl) rfl rfl ?_
      (refine run ?_; repeat intro b)
      refine s_br (Hp.sub.refl _) trivial ?_
      refine s_one 14 (by kernel_rfl) rfl rfl ?_
      (refine run ?_; repeat intro b)
      refine s_br (Hp.sub.refl _) trivial ?_
      refine s_stop (by kernel_rfl) ?_
      (refine run ?_; repeat intro b)
      refine rfK_n (VSf.ren (nx' := 5) [(6, 4), (3, 3), (2, 2), (0, 0)] [] [(4, ⟨some b5, enW (entsX (getL l3) (pre ++ [x])), 107, c5 * 2⟩), (3, ⟨some b3, muW (sidesR l2 16), 26, cap * 1⟩), (2, ⟨some b9, [.v (i64 (readH l0).epoch), .v (u64 ((readH l0).root : Nat)), .v (u64 ((readH l0).prev : Nat)), .v (i64 (readH l0).at_), .v (S l1), .row 4 0 (pre.length + 1) c5, .row 3 0 16 cap], 34, 7⟩), (0, ⟨some b2, [.v (i64 0), .v (u64 0), .v (u64 0), .v (i64 0), .v (S []), .v (.slice none 0 0), .v (.slice none 0 0)], 34, 7⟩)]
        ⟨rfl, ⟨_, rfl, rfl, rfl, rfl, .inl ⟨hcells.symm, hall⟩⟩, rfl, ⟨_, rfl, rfl, rfl, rfl, .inl ⟨rfl, muW_all _⟩⟩, rfl, ⟨_, rfl, rfl, rfl, rfl, .inr rfl⟩, rfl, ⟨_, rfl, rfl, rfl, rfl, .inr rfl⟩, trivial⟩ rfl rfl rfl rfl rfl rfl
        ⟨(some b5, c5), [], F', ⟨(fun h => by cases h), by rw [List.length_append]; exact hc5⟩, Hp.sub.refl _, by rw [List.length_append]; rfl⟩)
  · rintro D xs ⟨blk, cp⟩ W2 hD rfl ⟨g1, g2⟩ hS2 hK
    have hda : ∀ d, ({ a with defers := d :: a.defers } : Act) = withD [d] a := fun d => by unfold withD; rw [hS.defers]; rfl
    rw [hda]
    show (readCode [1]).wp Try.prog _ _ W2
    refine done_D tbok rfl rfl hS2 (fun k o h => le_lt hle3 h) hS.wok.pres.size hD hK ?_
    intro F4 hF4 hD4
    have hn2 : (getL l3).length / 2 = n := by omega
    have hbl : ∀ F', F4.sub F' → F' D = some (.deferred (some [])) := fun F' h => h D _ hD4
    dsimp only at g1 g2 ⊢
    rw [entsX_all]
    have hfl : (fst n n).length = n := fst_len (Nat.le_refl _)
    have hfin : ∀ F5 pe ce, F4.sub F5 → Frow F5 pe ((entsR (getL l3) n).flatMap Entry.row) → Frow F5 (some ⟨b3, 0, none⟩) ((sidesR l2 16).map mu) → RdQ s (pair (.agg #[i64 (readH l0).epoch, u64 ((readH l0).root : Nat), u64 ((readH l0).prev : Nat), i64 (readH l0).at_, S l1, .slice pe (fst n n).length ce, .slice (some ⟨b3, 0, none⟩) 16 cap]) (.bool true)) (F5.less D) := fun F5 pe ce h1 h2 h3 => by
      unfold RdQ
      rw [hrd]
      refine ⟨⟨pe, ce, some ⟨b3, 0, none⟩, cap⟩, ?_, ⟨?_, ?_⟩⟩
      · unfold rdP repV
        simp only [entsR_len, sidesR_len, hn2, hfl]
      · unfold rdP
        rw [hn2]
        exact frow_less (hbl _ h1) rfl h2
      · exact frow_less (hbl _ h1) rfl h3
    cases blk with
    | none =>
      obtain ⟨h1, h2⟩ := g1 rfl
      have h0 : n = 0 := by omega
      subst h2
      refine VS.recell 2 ([.v (i64 (readH l0).epoch), .v (u64 ((readH l0).root : Nat)), .v (u64 ((readH l0).prev : Nat)), .v (i64 (readH l0).at_), .v (S l1), .v (.slice none (fst n n).length 0), .row 3 0 16 cap]) rfl ⟨⟨trivial, rfl⟩, ⟨trivial, rfl⟩, ⟨trivial, rfl⟩, ⟨trivial, rfl⟩, ⟨trivial, rfl⟩, ⟨trivial, by rw [h1]; rfl⟩, ⟨(by decide : 3 < 5), rfl⟩, trivial⟩ rfl ?_
      refine VS.freeze 3 [2, 9] rfl (by unfold muW; exact allV_map_v _) rfl rfl fun F5 hs5 hf5 => VS.id ?_
      (refine run ?_; repeat intro b)
      exact ⟨hs5, _, rfl, hfin F5 none 0 hs5 (by rw [h0, entsR_zero]; exact frow_nil _ _) hf5⟩
    | some b4 =>
      refine VS.freeze 4 [2, 9] rfl (by unfold enW; exact allV_map_v _) rfl rfl fun F5 hs5 hf5 => ?_
      refine VS.freeze 3 [2, 9] rfl (by unfold muW; exact allV_frz _ _ _ _) rfl rfl fun F6 hs6 hf6 => VS.id ?_
      (refine run ?_; repeat intro b)
      exact ⟨hs5.trans hs6, _, rfl, hfin F6 _ cp (hs5.trans hs6) (frow_sub hs6 hf5) hf6⟩
end Go.Proofs.Ythkmfihbpbehfaa
