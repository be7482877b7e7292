/-
strings.Trim at a cutset of ASCII bytes: the walks.
-/
import Derived.Test.YthkkgphjjmhglaaGreatDoorSetBits
namespace Go.Proofs.YthkkgphjjmhglaaGreatDoor
set_option linter.unusedVariables false
set_option linter.unusedSimpArgs false
open Go.TR
/-- The cells of the set of some bytes. -/
def setV (l : List UInt8) : List Value := (List.range 256).map fun j => Value.bool (l.any fun c => c.toNat == j)
theorem setV_len (l : List UInt8) : (setV l).length = 256 := by unfold setV; simp
theorem setV_get (l : List UInt8) (j : Nat) (h : j < 256) : (setV l)[j]? = some (.bool (l.any fun c => c.toNat == j)) := by
  unfold setV
  rw [List.getElem?_map, List.getElem?_range h]
  rfl
theorem setV_nil : setV [] = List.replicate 256 (.bool false) := by
  apply List.ext_getElem?
  intro j
  by_cases h : j < 256
  · rw [setV_get _ _ h, List.getElem?_replicate, if_pos h]
    rfl
  · rw [List.getElem?_eq_none (by rw [setV_len]; omega), List.getElem?_eq_none (by rw [List.length_replicate]; omega)]
theorem setV_put (l : List UInt8) (c : UInt8) : ((setV l).map EV.v).take (0 + c.toNat * 1) ++ [.v (.bool true)] ++ ((setV l).map EV.v).drop (0 + c.toNat * 1 + 1) = (setV (l ++ [c])).map EV.v := by
  have hc := c.toNat_lt
  apply List.ext_getElem?
  intro j
  have e0 : 0 + c.toNat * 1 = c.toNat := by omega
  rw [e0]
  have hl : (((setV l).map EV.v).take c.toNat).length = c.toNat := by rw [List.length_take, List.length_map, setV_len]; omega
  by_cases h : j < 256
  · rw [List.getElem?_map, setV_get _ _ h, List.any_append]
    rcases Nat.lt_trichotomy j c.toNat with h1 | h1 | h1
    · rw [List.append_assoc, List.getElem?_append_left (by omega), List.getElem?_take, if_pos h1, List.getElem?_map, setV_get _ _ h]
      have : ([c].any fun c => c.toNat == j) = false := by simp; omega
      rw [this, Bool.or_false]
    · subst h1
      rw [List.append_assoc, List.getElem?_append_right (by omega), hl, Nat.sub_self]
      simp
    · rw [List.getElem?_append_right (by rw [List.length_append, hl]; simp; omega), List.length_append, hl, List.getElem?_drop, List.getElem?_map]
      have e : c.toNat + 1 + (j - (c.toNat + [EV.v (Value.bool true)].length)) = j := by simp; omega
      rw [e, setV_get _ _ h]
      have : ([c].any fun c => c.toNat == j) = false := by simp; omega
      rw [this, Bool.or_false]
  · rw [List.getElem?_eq_none (by simp [hl, setV_len]; omega), List.getElem?_eq_none (by rw [List.length_map, setV_len]; omega)]
theorem setV_all (l : List UInt8) : ((setV l).map EV.v).all one = true := by
  rw [List.all_eq_true]
  intro e he
  obtain ⟨v, hv, rfl⟩ := List.mem_map.1 he
  unfold setV at hv
  obtain ⟨j, _, rfl⟩ := List.mem_map.1 hv
  rfl
def zerA : List Value := List.replicate 256 (.bool false)
def tiA : TI := ⟨.array 256 4, 256, 256, zerA, false⟩
set_option maxRecDepth 100000 in
theorem tiA_ok : TI.ok Tryz.prog 239 tiA where
  info := ⟨Tryz.t239, by kernel_rfl, rfl, rfl, _, rfl, rfl⟩
  kind := ⟨(TypeDesc.array 256 4), by kernel_rfl, rfl⟩
  flat := fun h => by cases h
def tbA : Tb := fun t => match Nat.beq t 239 with
  | true => some tiA
  | false => tb t
theorem tbAok : TbOK Tryz.prog tbA := fun t i h => by
  unfold tbA at h
  split at h
  · rename_i hb
    have := Nat.eq_of_beq_eq_true hb
    subst this
    cases h
    exact tiA_ok
  · exact tbok t i h
/-- Is a byte in the set? -/
def inS (l : List UInt8) (c : UInt8) : Bool := l.any fun d => d.toNat == c.toNat
/-- Trimmed on the right, on the left. -/
def trimR (p : UInt8 → Bool) : List UInt8 → List UInt8
  | [] => []
  | c :: t => match trimR p t with
    | [] => if p c = true then [] else [c]
    | d :: r => c :: d :: r
def trimL (p : UInt8 → Bool) : List UInt8 → List UInt8
  | [] => []
  | c :: t => if p c = true then trimL p t else c :: t
theorem trimR_snoc (p : UInt8 → Bool) (x : UInt8) : ∀ q : List UInt8, trimR p (q ++ [x]) = if p x = true then trimR p q else q ++ [x]
  | [] => rfl
  | c :: t => by
    rw [List.cons_append]
    unfold trimR
    rw [trimR_snoc p x t]
    by_cases h : p x = true
    · rw [if_pos h, if_pos h]
    · rw [if_neg h, if_neg h]
      cases t <;> rfl
theorem trimR_len (p : UInt8 → Bool) : ∀ s : List UInt8, (trimR p s).length ≤ s.length
  | [] => Nat.le_refl _
  | c :: t => by
    have ih := trimR_len p t
    unfold trimR
    cases h : trimR p t with
    | nil => by_cases hc : p c = true <;> simp [hc]
    | cons d r =>
      rw [h] at ih
      simp only [List.length_cons] at ih ⊢
      omega
theorem trimR_nil (p : UInt8 → Bool) : ∀ s : List UInt8, trimR p s = [] ↔ s.all p = true
  | [] => by simp [trimR]
  | c :: t => by
    have ih := trimR_nil p t
    unfold trimR
    rw [List.all_cons]
    cases h : trimR p t with
    | nil =>
      rw [(ih.1 h), Bool.and_true]
      cases hc : p c <;> simp
    | cons d r =>
      have : t.all p = false := by
        cases ha : t.all p with
        | false => rfl
        | true => rw [ih.2 ha] at h; cases h
      rw [this]
      simp
theorem trimL_nil (p : UInt8 → Bool) : ∀ s : List UInt8, trimL p s = [] ↔ s.all p = true
  | [] => by simp [trimL]
  | c :: t => by
    unfold trimL
    rw [List.all_cons]
    cases hc : p c with
    | false => simp
    | true => simpa using trimL_nil p t
theorem trimR_last (p : UInt8 → Bool) : ∀ s : List UInt8, (trimR p s).all p = s.all p
  | [] => rfl
  | c :: t => by
    have ih := trimR_last p t
    unfold trimR
    cases h : trimR p t with
    | nil =>
      have := (trimR_nil p t).1 h
      rw [List.all_cons, this, Bool.and_true]
      cases hc : p c <;> simp [hc]
    | cons d r =>
      rw [h] at ih
      simp only [List.all_cons] at ih ⊢
      rw [ih]
theorem trim_nil (p : UInt8 → Bool) (s : List UInt8) : trimL p (trimR p s) = [] ↔ s.all p = true := by rw [trimL_nil, trimR_last]
theorem setV_at (l : List UInt8) (c : UInt8) : (setV l)[c.toNat]? = some (.bool (inS l c)) := setV_get l c.toNat c.toNat_lt
theorem trimR_emp (p : UInt8 → Bool) : trimR p [] = [] := rfl
theorem trimL_emp (p : UInt8 → Bool) : trimL p [] = [] := rfl
theorem trimL_cons (p : UInt8 → Bool) (c : UInt8) (t : List UInt8) : trimL p (c :: t) = if p c = true then trimL p t else c :: t := rfl
theorem resV_cell {tb : Tb} {env : Env} {F : Hp} {rs : RL} {nx a t id off : Nat} {l : List ResultVar} {i : TI} {r : Blk} {xs cs : List Value} (h1 : aliveO rs (lk env a) = some (.loc id off)) (h2 : tb t = some i) (h3 : lkR rs id = some r) (h4 : resV tb ⟨env, F, rs, nx⟩ l = some xs) (h5 : i.kind.agg = true) (h6 : allV rs ((r.cells.take (off + i.size)).drop off) = some cs) (h7 : off + i.size ≤ r.cells.length) :
    resV tb ⟨env, F, rs, nx⟩ (.cell a t :: l) = some (.agg cs.toArray :: xs) := by
  simp only [resV, h1, h2, h3, h4, h5, h6, h7, if_true]
attribute [local irreducible] vc vcOps seqK blockK loopK retK retG retI loopV Plain CallOK CallIn bodied VS vcAny dropG backK brK loopPK IntKind.wrap
attribute [local irreducible] setV zerA trimR trimL inS
set_option maxRecDepth 100000
set_option maxHeartbeats 2000000
theorem contains_ok (l : List UInt8) (c : UInt8) {b : Nat} {F : Hp} (hf : Frow F (some ⟨b, 0, none⟩) (setV l)) : Plain Tryz.prog F 204 [.pointer (some ⟨b, 0, none⟩), u8 (c.toNat : Nat)] (.bool (inS l c)) := by
  have hc := c.toNat_lt
  refine plain_vc (N := 10) (rv := [.tmp 4]) tbAok mixed Tryz.func204 rfl rfl rfl rfl rfl ?_
  (refine run ?_; repeat intro b)
  refine s_pureO rfl rfl rfl rfl ?_
  refine s_pureO rfl rfl rfl ⟨by omega, by show ((c.toNat : Nat) : Int) < 256; omega, rfl⟩ ?_
  refine s_load (.bool (inS l c)) rfl rfl rfl rfl (by rw [Int.toNat_natCast]; show Pcell F (padd _ (c.toNat * 1)) = _; rw [Nat.mul_one]; exact hf c.toNat _ (setV_at l c)) ?_
  (refine run ?_; repeat intro b)
  rfl
theorem makeset_ok (s : List UInt8) (hs : s.length ≤ 100) (ha : ∀ c ∈ s, c.toNat < 128) (F : Hp) : Plain Tryz.prog F 166 [S s] (pair (.agg (setV s).toArray) (.bool true)) := by
  refine plain_vc (N := 21) (rv := [.cell 2 239, .tmp 3]) tbAok mixed Tryz.func166 rfl rfl rfl rfl rfl ?_
  (refine run ?_; repeat intro b)
  refine s_alloc (i := tiA) (cells := (setV []).map EV.v) (n := 256) rfl (by rw [setV_nil, forceL_eq]; show some (List.map EV.v zerA) = _; unfold zerA; rfl) (by rw [List.length_map, setV_len]) rfl fun b => ?_
  (refine run ?_; repeat intro b)
  refine s_loopP (fun k : Nat => k ≤ s.length) (fun k => ⟨[(0, .v (S s)), (2, .loc 0 0), (4, .v (i64 (k : Nat)))], F, [(0, ⟨some b, (setV (s.take k)).map EV.v, 239, 256⟩)], 1⟩) (fun k => s.length - k) 0 (Nat.zero_le _) (VS.keepN [0, 2, 4] rfl rfl) ?_
  intro k hk
  by_cases hlt : k < s.length
  · have hc := ha s[k] (List.getElem_mem hlt)
    have ht : s.take (k + 1) = s.take k ++ [s[k]] := List.take_succ_eq_append_getElem hlt
    have hget : (bl (mkB s)).getD ((k : Nat) : Int).toNat 0 = s[k] := by rw [bl_S, Int.toNat_natCast]; simp [List.getD, hlt]
    (refine run ?_; repeat intro b)
    refine s_if true (by rw [← decide_eq_true (p := ((k : Nat) : Int) < (((bl (mkB s)).length : Nat) : Int)) (by rw [bl_S]; omega)]; rfl) (fun _ => ?_) (fun h => by cases h)
    (refine run ?_; repeat intro b)
    refine s_pureO rfl rfl rfl ⟨by omega, by rw [bl_S]; omega⟩ ?_
    rw [hget]
    (refine run ?_; repeat intro b)
    refine s_if false (by rw [← decide_eq_false (p := (128 : Int) ≤ ((s[k].toNat : Nat) : Int)) (by omega)]; rfl) (fun h => by cases h) (fun _ => ?_)
    (refine run ?_; repeat intro b)
    refine s_pureO rfl rfl rfl ⟨by omega, by show ((s[k].toNat : Nat) : Int) < 256; omega⟩ ?_
    refine s_storeX ((setV (s.take (k + 1))).map EV.v) rfl rfl rfl rfl rfl rfl ?_ ?_ rfl ?_
    · show 0 + ((s[k].toNat : Nat) : Int).toNat * 1 + 1 ≤ ((setV (s.take k)).map EV.v).length
      rw [List.length_map, setV_len]; omega
    · rw [ht]
      exact setV_put (s.take k) s[k]
    (refine run ?_; repeat intro b)
    rw [wrap_succ (by omega)]
    exact s_loopPn (k + 1) hlt (by omega) (VS.keepN [0, 2, 4] rfl rfl)
  · have hge : k = s.length := by omega
    subst hge
    rw [List.take_length]
    (refine run ?_; repeat intro b)
    refine s_if false (by rw [← decide_eq_false (p := ((s.length : Nat) : Int) < (((bl (mkB s)).length : Nat) : Int)) (by rw [bl_S]; omega)]; rfl) (fun h => by cases h) (fun _ => ?_)
    (refine run ?_; repeat intro b)
    refine s_locXA (setV s) rfl rfl rfl rfl rfl (by show 0 + 256 ≤ ((setV s).map EV.v).length; rw [List.length_map, setV_len]; omega) (by show (((setV s).map EV.v).take (0 + 256)).drop 0 = _; rw [List.drop_zero, List.take_of_length_le (by rw [List.length_map, setV_len]; omega)]) ?_
    refine s_storeX ((setV s).map EV.v) rfl rfl rfl rfl (by show ((setV s).map EV.v).length = 256; rw [List.length_map, setV_len]) (setV_all s) (by show 0 + 256 ≤ ((setV s).map EV.v).length; rw [List.length_map, setV_len]; omega) (by show ((setV s).map EV.v).take 0 ++ (setV s).map EV.v ++ ((setV s).map EV.v).drop (0 + 256) = _; rw [List.take_zero, List.nil_append, List.drop_eq_nil_of_le (by rw [List.length_map, setV_len]; omega), List.append_nil]) rfl ?_
    (refine run ?_; repeat intro b)
    refine s_end (xs := [.agg (setV s).toArray, .bool true]) ?_ rfl
    have e1 : (((setV s).map EV.v).take (0 + 256)).drop 0 = (setV s).map EV.v := by rw [List.drop_zero, List.take_of_length_le (by rw [List.length_map, setV_len]; omega)]
    have e2 : ∀ rs, allV rs ((((setV s).map EV.v).take (0 + 256)).drop 0) = some (setV s) := fun rs => by rw [e1]; exact allV_map_v _
    have e3 : 0 + 256 ≤ ((setV s).map EV.v).length := by rw [List.length_map, setV_len]; omega
    exact resV_cell (i := tiA) rfl rfl rfl rfl rfl (e2 _) e3
theorem trimright_ok (l s : List UInt8) (hs : s.length ≤ 4611686018427387904) {b : Nat} {F : Hp} (hf : Frow F (some ⟨b, 0, none⟩) (setV l)) : Plain Tryz.prog F 168 [S s, .pointer (some ⟨b, 0, none⟩)] (S (trimR (inS l) s)) := by
  refine plain_vc (N := 22) (rv := [.tmp 4]) tbAok mixed Tryz.func168 rfl rfl rfl rfl rfl ?_
  (refine run ?_; repeat intro b)
  refine s_loopP (fun q : List UInt8 => trimR (inS l) q = trimR (inS l) s ∧ q.length ≤ s.length) (fun q => ⟨[(0, .v (S q)), (1, .v (.pointer (some ⟨b, 0, none⟩)))], F, [], 0⟩) (fun q => q.length) s ⟨rfl, Nat.le_refl _⟩ (VS.keepN [0, 1] rfl rfl) ?_
  rintro q ⟨h1, h2⟩
  rcases List.eq_nil_or_concat q with rfl | ⟨q', x, rfl⟩
  · (refine run ?_; repeat intro b)
    rw [← h1, trimR_emp]
    rfl
  · rw [List.concat_eq_append] at *
    have hlen : (q' ++ [x]).length = q'.length + 1 := by simp
    have e1 : IntKind.i64.wrap ((((bl (mkB (q' ++ [x]))).length : Nat) : Int) - 1) = ((q'.length : Nat) : Int) := by rw [bl_S, hlen, wrap_i64 (by omega) (by omega)]; omega
    have e2 : (bl (mkB (q' ++ [x]))).getD ((q'.length : Nat) : Int).toNat 0 = x := by rw [bl_S, Int.toNat_natCast]; simp [List.getD]
    have e3 : (bl (mkB (q' ++ [x]))).take ((q'.length : Nat) : Int).toNat = q' := by rw [bl_S, Int.toNat_natCast]; simp
    rw [trimR_snoc] at h1
    (refine run ?_; repeat intro b)
    refine s_if true (by rw [← decide_eq_true (p := (0 : Int) < (((bl (mkB (q' ++ [x]))).length : Nat) : Int)) (by rw [bl_S, hlen]; omega)]; rfl) (fun _ => ?_) (fun h => by cases h)
    (refine run ?_; repeat intro b)
    rw [e1]
    refine s_pureO rfl rfl rfl ⟨by omega, by rw [bl_S, hlen]; omega⟩ ?_
    rw [e2]
    (refine run ?_; repeat intro b)
    refine s_plain _ rfl rfl rfl bd204 rfl (contains_ok l x hf) ?_
    cases hx : inS l x with
    | false =>
      rw [hx, if_neg (by decide)] at h1
      (refine run ?_; repeat intro b)
      rw [← h1]
      rfl
    | true =>
      rw [hx, if_pos rfl] at h1
      (refine run ?_; repeat intro b)
      rw [e1]
      refine s_pureO rfl rfl rfl ⟨by omega, by rw [bl_S, hlen]; omega⟩ ?_
      rw [e3]
      (refine run ?_; repeat intro b)
      exact s_loopPn q' ⟨h1, by omega⟩ (by rw [hlen]; omega) (VS.keepN [0, 1] rfl rfl)
theorem trimleft_ok (l s : List UInt8) (hs : s.length ≤ 4611686018427387904) {b : Nat} {F : Hp} (hf : Frow F (some ⟨b, 0, none⟩) (setV l)) : Plain Tryz.prog F 167 [S s, .pointer (some ⟨b, 0, none⟩)] (S (trimL (inS l) s)) := by
  refine plain_vc (N := 16) (rv := [.tmp 4]) tbAok mixed Tryz.func167 rfl rfl rfl rfl rfl ?_
  (refine run ?_; repeat intro b)
  refine s_loopP (fun q : List UInt8 => trimL (inS l) q = trimL (inS l) s ∧ q.length ≤ s.length) (fun q => ⟨[(0, .v (S q)), (1, .v (.pointer (some ⟨b, 0, none⟩)))], F, [], 0⟩) (fun q => q.length) s ⟨rfl, Nat.le_refl _⟩ (VS.keepN [0, 1] rfl rfl) ?_
  rintro q ⟨h1, h2⟩
  cases q with
  | nil =>
    (refine run ?_; repeat intro b)
    rw [← h1, trimL_emp]
    rfl
  | cons x q' =>
    have hlen : (x :: q').length = q'.length + 1 := rfl
    have e3 : (bl (mkB (x :: q'))).drop (1 : Int).toNat = q' := rfl
    rw [trimL_cons] at h1
    (refine run ?_; repeat intro b)
    refine s_if true (by rw [← decide_eq_true (p := (0 : Int) < (((bl (mkB (x :: q'))).length : Nat) : Int)) (by rw [bl_S, hlen]; omega)]; rfl) (fun _ => ?_) (fun h => by cases h)
    (refine run ?_; repeat intro b)
    refine s_pureO rfl rfl rfl ⟨by omega, by rw [bl_S, hlen]; omega⟩ ?_
    (refine run ?_; repeat intro b)
    refine s_plain _ rfl rfl rfl bd204 rfl (contains_ok l x hf) ?_
    cases hx : inS l x with
    | false =>
      rw [hx, if_neg (by decide)] at h1
      (refine run ?_; repeat intro b)
      rw [← h1]
      rfl
    | true =>
      rw [hx, if_pos rfl] at h1
      (refine run ?_; repeat intro b)
      refine s_pureO rfl rfl rfl ⟨by omega, by rw [bl_S, hlen]; omega⟩ ?_
      rw [e3]
      (refine run ?_; repeat intro b)
      exact s_loopPn q' ⟨h1, by omega⟩ (by rw [hlen]; omega) (VS.keepN [0, 1] rfl rfl)
theorem trim_ok (s : List UInt8) (hs : s.length ≤ 4611686018427387904) (F : Hp) : Plain Tryz.prog F 125 [S s, S [48, 49]] (S (trimL (inS [48, 49]) (trimR (inS [48, 49]) s))) := by
  refine plain_vc (N := 43) (rv := [.tmp 4]) tbAok mixed Tryz.func125 rfl rfl rfl rfl rfl ?_
  (refine run ?_; repeat intro b)
  refine s_if (decide (s = [])) ?_ (fun h => ?_) (fun h => ?_)
  · refine congrArg (fun b => some (EV.v (.bool b))) ?_
    have e : bl ⟨#[]⟩ = [] := rfl
    rw [bpick_or, Bool.eq_iff_iff, e]
    simp only [Bool.or_eq_true]
    exact ⟨fun h => h.elim (fun h => decide_eq_true (of_decide_eq_true h)) (fun h => absurd (of_decide_eq_true h) (by simp)), fun h => .inl (decide_eq_true (of_decide_eq_true h))⟩
  · have h := of_decide_eq_true h
    subst h
    rw [trimR_emp, trimL_emp]
    (refine run ?_; repeat intro b)
    rfl
  · (refine run ?_; repeat intro b)
    refine s_plain _ rfl rfl rfl bd166 rfl (makeset_ok [48, 49] (by decide) (by decide) F) ?_
    (refine run ?_; repeat intro b)
    refine s_pureO (ob := True) (e := .v (.agg (setV [48, 49]).toArray)) rfl (by rw [normPV_eq]; rfl) rfl trivial ?_
    (refine run ?_; repeat intro b)
    refine s_alloc (i := tiA) (cells := (setV []).map EV.v) (n := 256) rfl (by rw [setV_nil, forceL_eq]; show some (List.map EV.v zerA) = _; unfold zerA; rfl) (by rw [List.length_map, setV_len]) rfl fun b => ?_
    refine s_storeX ((setV [48, 49]).map EV.v) rfl rfl rfl rfl (by show ((setV [48, 49]).map EV.v).length = 256; rw [List.length_map, setV_len]) (setV_all [48, 49]) (by show 0 + 256 ≤ ((setV []).map EV.v).length; rw [List.length_map, setV_len]; omega) (by show ((setV []).map EV.v).take 0 ++ (setV [48, 49]).map EV.v ++ ((setV []).map EV.v).drop (0 + 256) = _; rw [List.take_zero, List.nil_append, List.drop_eq_nil_of_le (by rw [List.length_map, setV_len]; omega), List.append_nil]) rfl ?_
    (refine run ?_; repeat intro b)
    refine s_shift (VS.freeze 0 [5, 35] rfl (allV_map_v _) rfl rfl fun F1 hs1 hf1 => VS.id ?_)
    refine s_plain _ rfl rfl rfl bd168 rfl (trimright_ok [48, 49] s hs hf1) ?_
    have hl := trimR_len (inS [48, 49]) s
    refine s_plain _ rfl rfl rfl bd167 rfl (trimleft_ok [48, 49] _ (by omega) hf1) ?_
    (refine run ?_; repeat intro b)
    rfl
end Go.Proofs.YthkkgphjjmhglaaGreatDoor
