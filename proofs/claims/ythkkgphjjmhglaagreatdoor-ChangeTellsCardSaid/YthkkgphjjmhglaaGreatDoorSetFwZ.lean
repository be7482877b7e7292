/-
Package proof: Tell, After: plainly, and the walks.
-/
import Derived.Test.YthkkgphjjmhglaaGreatDoorTreeLaw
import Derived.Test.YthkkgphjjmhglaaGreatDoorSetClash
import Derived.Test.YthkkgphjjmhglaaGreatDoorSetFwD
/-!
Package proof: Tell, After: plainly, and the walks.
-/
namespace Go.Proofs.YthkkgphjjmhglaaGreatDoor
set_option linter.unusedVariables false
set_option linter.unusedSimpArgs false
open Go.TR
theorem bookG_of : ∀ {l : List Entry} {p : Option (List UInt8)}, (∀ x ∈ l, askFault x.name x.value = 0) → Book l → (∀ q, p = some q → ∀ x ∈ l, ahead q x.name = true) → bookG p l = 0
  | [], _, _, _, _ => rfl
  | a :: l, p, h1, h2, h3 => by
    obtain ⟨h4, h5⟩ := List.pairwise_cons.1 h2
    have hp : p.any (fun p => !ahead p a.name) = false := by
      cases p with
      | none => rfl
      | some q => simp [h3 q rfl a (by simp)]
    unfold bookG
    rw [if_neg (by simpa using h1 a (by simp)), if_neg (by rw [hp]; decide)]
    exact bookG_of (fun x hx => h1 x (by simp [hx])) h5 (fun q e x hx => by cases e; exact h4 x hx)
theorem askFault_of {n v : List UInt8} (h1 : goodName n = true) (h2 : v.length ≤ 20) : askFault n v = 0 := by
  unfold askFault
  rw [if_pos h1, if_neg (by omega)]
theorem set_fault {l : List Entry} {n v : List UInt8} (h : setE l n v = 0) : bookFault (setL l n v) = 0 ∧ ∀ x ∈ setL l n v, x = ⟨n, v⟩ ∨ x ∈ l := by
  have h0 : findE l n = 0 := by
    unfold setE at h
    by_cases g : findE l n = 0
    · exact g
    · rw [if_pos g] at h; exact h
  have ha : askFault n v = 0 := by
    unfold setE at h
    rw [if_neg (by simpa using h0)] at h
    by_cases g : askFault n v = 0
    · exact g
    · rw [if_pos g] at h; exact h
  have hf : ¬ (hasN l n = false ∧ l.length = 24) := fun g => by
    unfold setE at h
    rw [if_neg (by simpa using h0), if_neg (by simpa using ha), if_pos g] at h
    cases h
  obtain ⟨b0, b1⟩ := findE_zero h0
  obtain ⟨h24, hgood, _⟩ := bookFault_zero b0
  have hb := book_of b0
  have hmem : ∀ x ∈ setL l n v, x = ⟨n, v⟩ ∨ x ∈ l := fun x hx => by
    rcases set_mem hb hx with e | e
    · exact .inl e
    · exact .inr e.1
  refine ⟨?_, hmem⟩
  have hlen := set_len hb n v
  unfold bookFault
  rw [if_neg]
  · refine bookG_of (fun x hx => ?_) (set_book hb n v) (fun q e => by cases e)
    rcases hmem x hx with rfl | hx
    · exact ha
    · exact askFault_of (hgood x hx).1 (hgood x hx).2
  · rw [hlen]
    cases hh : hasN l n with
    | true => simp; omega
    | false =>
      have : l.length ≠ 24 := fun e => hf ⟨hh, e⟩
      simp
      omega
def withE (p : Prf) (v : List UInt8) : Prf := ⟨p.name, setL p.ents p.name v, p.sides⟩
def heldE (root : Nat) (p : Prf) : Int := if prfFault p ≠ 0 then prfFault p else if prfRoot p ≠ root then 8 else 0
def tellV (root : Nat) (p : Prf) : List UInt8 := if heldE root p = 0 then getV p.ents p.name else []
def tellB (root : Nat) (p : Prf) : Bool := decide (heldE root p = 0) && findB p.ents p.name
def afterE (root : Nat) (p : Prf) (v : List UInt8) : Int := if heldE root p ≠ 0 then heldE root p else setE p.ents p.name v
def afterN (root : Nat) (p : Prf) (v : List UInt8) : Nat := if afterE root p v = 0 then prfRoot (withE p v) else 0
attribute [local irreducible] ahead orderN pathN wayN goodName bookFault markN lbN hasN findE askFault dropL standsO setE dropE getV findB setO dropO setL prfFault prfRoot heldE tellV tellB afterE afterN
attribute [local irreducible] vc vcOps seqK blockK loopK retK retG retI loopV Plain CallOK CallIn bodied VS vcAny dropG backK brK loopPK IntKind.wrap
set_option maxRecDepth 100000
set_option maxHeartbeats 4000000
end Go.Proofs.YthkkgphjjmhglaaGreatDoor
/-!
A small program logic of our own for the model. Part z: a call that is walked in its place, told of under other names of the blocks. Nothing here speaks of one program.
-/
namespace Go.TR
set_option linter.unusedVariables false
variable {P : Program}
theorem WOK.ctxZ {c c' : Ctx} {F : Hp} {rs : RL} {w : World} (h : WOK c F rs w) (h1 : c'.wE = c.wE) (h2 : c'.F0 = c.F0) (h3 : c'.F1 = c.F1) (h4 : c'.sz = c.sz) : WOK c' F rs w :=
  ⟨h.le, h.own, by rw [h1]; exact h.pres, by rw [h1]; exact h.new, by rw [h1, h2]; exact h.fnew, by rw [h4]; exact h.sz, by rw [h1, h2, h3]; exact h.tp⟩
theorem val_shift (m : Nat) (rs : RL) (e : EV) : (shiftE m e).val (shiftR m rs) = e.val rs := by
  have := val_new (nx := m) (new := rs) (rs := []) (fun id r h => by simp [lkR] at h) e
  rwa [List.append_nil] at this
theorem shift_lk {m : Nat} {rs : RL} {id : Nat} {r : Blk} (h : lkR (shiftR m rs) id = some r) : m ≤ id ∧ ∃ r0, lkR rs (id - m) = some r0 ∧ r = shiftB m r0 := by
  rw [lkR_shift] at h
  split at h
  · rename_i hm
    cases hl : lkR rs (id - m) with
    | none => rw [hl] at h; cases h
    | some r0 => rw [hl] at h; exact ⟨hm, r0, rfl, (Option.some.inj h).symm⟩
  · cases h
theorem Owned.shift {F : Hp} {rs : RL} {w : World} (h : Owned F rs w) (m : Nat) : Owned F (shiftR m rs) w where
  own := fun id r hr => by
    obtain ⟨hm, r0, h1, rfl⟩ := shift_lk hr
    have ho := h.own _ r0 h1
    show match r0.blk with
      | none => ((shiftB m r0).cells = [] ∨ r0.ty = 0 ∧ ∃ b : Nat, (shiftB m r0).cells = [.v (.int .i64 (b : Int))]) ∧ r0.cap = 0
      | some b => F b = none ∧ (shiftB m r0).cells.length ≤ r0.cap ∧ ∃ cur : Array Value, w.heap[b]? = some (.cells cur r0.ty (0, 0)) ∧ cur.size = r0.cap ∧
        ∀ (j : Nat) (ev : EV) (x : Value), (shiftB m r0).cells[j]? = some ev → ev.val (shiftR m rs) = some x → cur[j]? = some x
    cases hb : r0.blk with
    | none =>
      rw [hb] at ho
      obtain ⟨g1, g2⟩ := ho
      refine ⟨?_, g2⟩
      rcases g1 with g1 | ⟨g0, b, g1⟩
      · left; simp [shiftB, g1]
      · right; exact ⟨g0, b, by simp [shiftB, g1, shiftE]⟩
    | some b =>
      rw [hb] at ho
      obtain ⟨g1, g2, cur, g3, g4, g5⟩ := ho
      refine ⟨g1, by simpa [shiftB] using g2, cur, g3, g4, fun j ev x hj hx => ?_⟩
      simp only [shiftB, List.getElem?_map, Option.map_eq_some_iff] at hj
      obtain ⟨e0, hj0, rfl⟩ := hj
      rw [val_shift] at hx
      exact g5 j e0 x hj0 hx
  apart := fun i j r s b hi hj hb1 hb2 => by
    obtain ⟨m1, r0, g1, rfl⟩ := shift_lk hi
    obtain ⟨m2, s0, g2, rfl⟩ := shift_lk hj
    have := h.apart _ _ r0 s0 b g1 g2 hb1 hb2
    omega
theorem allV_ren {ρ : List (Nat × Nat)} {rs rs' : RL} (hnd : (ρ.map (·.2)).Nodup) (h : RenOK ρ rs ρ rs') : ∀ {l l' : List EV} {ys : List Value}, renL ρ l = some l' → allV rs' l' = some ys → allV rs l = some ys
  | [], l', ys, h1, h2 => by
    simp only [renL, Option.some.injEq] at h1
    subst h1
    exact h2
  | e :: t, l', ys, h1, h2 => by
    simp only [renL] at h1
    split at h1
    · rename_i e1 t1 g1 g2
      simp only [Option.some.injEq] at h1
      subst h1
      simp only [allV] at h2 ⊢
      split at h2
      · rename_i x xs q1 q2
        rw [ren_val hnd h g1 q1, allV_ren hnd h g2 q2]
        exact h2
      · cases h2
    · cases h1
theorem CallIn.named {F : Hp} {rs rs0 rs2 : RL} {nx nx2 m : Nat} {f : FuncId} {args args2 : List EV} {Q : EV → Hp → RL → Nat → Prop} (ρ : List (Nat × Nat)) (hc : CallIn P F rs nx f args Q) (hr : RenOK ρ rs2 ρ rs0) (hrs : rs0 = rs) (ha : renL ρ args2 = some args) (hv : (allV rs args).isSome = true)
    (h1 : fstsB ρ [] = true) (h2 : sndsB ρ [] = true) (h3 : newB 0 nx ρ = true) (hm : m + nx = nx2) (hQ : ∀ e F' rs' nx', Q e F' rs' nx' → nx ≤ nx' ∧ ∀ id r, lkR rs' id = some r → nx ≤ id) :
    CallIn P F rs2 nx2 f args2 (fun e F' rs' nx' => ∃ e0 rs1 nx1, Q e0 F' rs1 nx1 ∧ e = shiftE m e0 ∧ rs' = shiftR m rs1 ∧ nx' = m + nx1) := by
  subst hrs
  intro c w hw hh hids hrs0 hnx0 xs hxs
  have hs : GSat { c with rs0 := [], nx0 := 0 } 0 [] ⟨[], F, rs2, nx2⟩ ⟨#[], []⟩ w := {
    size := rfl
    defers := rfl
    wok := hw.ctxZ rfl rfl rfl rfl
    hist := ⟨hh.sub, Nat.zero_le _, fun id r hid => absurd hid (Nat.not_lt_zero _)⟩
    rids := hids
    ids := fun n e he => by simp [lk] at he
    env := fun n e x _ he => by simp [lk] at he
    gv := fun n ch e he => by simp [lkG] at he }
  have hs2 := ren_sat (k := 0) ρ [] (Nat.zero_le _) hs hr rfl h1 h2 h3 (Nat.zero_le _)
  have hxs1 : allV rs0 args = some xs := by
    cases hy : allV rs0 args with
    | none => rw [hy] at hv; cases hv
    | some ys => rw [← hxs, allV_ren (snds_nd h2).1 hr ha hy]
  refine (hc { c with rs0 := rs0, nx0 := nx } w (hs2.wok.ctxZ rfl rfl rfl rfl) ⟨hh.sub, Nat.le_refl _, fun id r _ hr => ⟨r, hr, rfl⟩⟩ hs2.rids rfl rfl xs hxs1).mono fun e w' hh' => ?_
  obtain ⟨x, ev, F', rs', nx', e1, e2, e3, e4, e5, e6, e7⟩ := hh'
  obtain ⟨q1, q2⟩ := hQ _ _ _ _ e7
  refine ⟨x, shiftE m ev, F', shiftR m rs', m + nx', e1, ?_, ?_, ?_, lt_shift e5, by rw [val_shift]; exact e6, ev, rs', nx', e7, rfl, rfl, rfl⟩
  · exact {
      le := e2.le
      own := e2.own.shift m
      pres := e2.pres
      new := fun id r b hr hb => by
        obtain ⟨_, r0, g1, rfl⟩ := shift_lk hr
        exact e2.new _ r0 b g1 (shiftB_at hb)
      fnew := e2.fnew
      sz := e2.sz
      tp := e2.tp }
  · exact {
      sub := e3.sub
      nxle := by rw [hnx0]; omega
      succ := fun id r hid hr => by
        obtain ⟨g0, r0, g1, _⟩ := shift_lk hr
        have := q2 _ _ g1
        rw [hnx0] at hid
        omega }
  · intro id r hr
    obtain ⟨g0, r0, g1, rfl⟩ := shift_lk hr
    obtain ⟨g2, g3⟩ := e4 _ _ g1
    refine ⟨by omega, fun e he => ?_⟩
    simp only [shiftB, List.mem_map] at he
    obtain ⟨e0, he0, rfl⟩ := he
    exact lt_shift (g3 e0 he0)
theorem lk_shift {m : Nat} {rs : RL} {id : Nat} {r : Blk} (h : lkR rs id = some r) : lkR (shiftR m rs) (m + id) = some (shiftB m r) := by
  rw [lkR_shift, if_pos (Nat.le_add_right m id), Nat.add_sub_cancel_left, h]
  rfl
theorem Owned.unshift {F : Hp} {rs : RL} {w : World} {m : Nat} (h : Owned F (shiftR m rs) w) : Owned F rs w where
  own := fun id r hr => by
    have ho := h.own _ _ (lk_shift (m := m) hr)
    have hb : (shiftB m r).blk = r.blk := rfl
    cases hbk : r.blk with
    | none =>
      rw [hb, hbk] at ho
      obtain ⟨g1, g2⟩ := ho
      refine ⟨?_, g2⟩
      rcases g1 with g1 | ⟨g0, b, g1⟩
      · left
        simpa [shiftB] using g1
      · right
        rcases shiftB_at (n := m) (r := r) (b := b) (.inr ⟨hb.trans hbk, g0, g1⟩) with h1 | ⟨_, _, h1⟩
        · rw [hbk] at h1; cases h1
        · exact ⟨g0, b, h1⟩
    | some b =>
      rw [hb, hbk] at ho
      obtain ⟨g1, g2, cur, g3, g4, g5⟩ := ho
      refine ⟨g1, by simpa [shiftB] using g2, cur, g3, g4, fun j ev x hj hx => ?_⟩
      refine g5 j (shiftE m ev) x ?_ (by rw [val_shift]; exact hx)
      simp [shiftB, hj]
  apart := fun i j r s b hi hj hb1 hb2 => by
    have := h.apart _ _ _ _ b (lk_shift (m := m) hi) (lk_shift (m := m) hj) hb1 hb2
    omega
theorem at_shift {m : Nat} {r : Blk} {b : Nat} (h : r.at b) : (shiftB m r).at b := by
  rcases h with h | ⟨h1, h0, h2⟩
  · exact .inl h
  · exact .inr ⟨h1, h0, by simp [shiftB, h2, shiftE]⟩
theorem lt_unshift {m k : Nat} {e : EV} (h : (shiftE m e).lt (m + k)) : e.lt k := by
  cases e <;> simp only [shiftE, EV.lt] at * <;> omega
/-- The same values handed over, told of in another way. -/
theorem CallIn.args {F : Hp} {rs : RL} {nx : Nat} {f : FuncId} {args args' : List EV} {Q : EV → Hp → RL → Nat → Prop} (h : CallIn P F rs nx f args Q) (e : allV rs args' = allV rs args) : CallIn P F rs nx f args' Q :=
  fun c w h1 h2 h3 h4 h5 xs hx => h c w h1 h2 h3 h4 h5 xs (e ▸ hx)
theorem CallIn.mono {F : Hp} {rs : RL} {nx : Nat} {f : FuncId} {args : List EV} {Q Q' : EV → Hp → RL → Nat → Prop} (h : CallIn P F rs nx f args Q) (hq : ∀ e F' rs' nx', Q e F' rs' nx' → Q' e F' rs' nx') : CallIn P F rs nx f args Q' :=
  fun c w h1 h2 h3 h4 h5 xs hx => (h c w h1 h2 h3 h4 h5 xs hx).mono fun e w' hh => by
    obtain ⟨x, ev, F', rs', nx', e1, e2, e3, e4, e5, e6, e7⟩ := hh
    exact ⟨x, ev, F', rs', nx', e1, e2, e3, e4, e5, e6, hq _ _ _ _ e7⟩
/-- Whatever names the blocks bear in the end: they bear those from j on. -/
theorem CallIn.norm {F : Hp} {rs : RL} {nx : Nat} {f : FuncId} {args : List EV} {Q : EV → Hp → RL → Nat → Prop} (j : Nat) (hj : nx ≤ j)
    (h : CallIn P F rs nx f args (fun e F' rs' nx' => ∃ i r k e0, rs' = shiftR i r ∧ nx' = i + k ∧ e = shiftE i e0 ∧ Q e0 F' r k)) :
    CallIn P F rs nx f args (fun e F' rs' nx' => ∃ r k e0, rs' = shiftR j r ∧ nx' = j + k ∧ e = shiftE j e0 ∧ Q e0 F' r k) := by
  intro c w h1 h2 h3 h4 h5 xs hx
  refine (h c w h1 h2 h3 h4 h5 xs hx).mono fun e w' hh => ?_
  obtain ⟨x, ev, F', rs', nx', e1, e2, e3, e4, e5, e6, i, r, k, e0, rfl, rfl, rfl, hq⟩ := hh
  have hr : ∀ id b, lkR r id = some b → id < k ∧ ∀ e ∈ b.cells, e.lt k := fun id b hb => by
    obtain ⟨g1, g2⟩ := e4 _ _ (lk_shift (m := i) hb)
    refine ⟨by omega, fun e he => lt_unshift (g2 (shiftE i e) ?_)⟩
    simp only [shiftB, List.mem_map]
    exact ⟨e, he, rfl⟩
  rw [val_shift] at e6
  refine ⟨x, shiftE j e0, F', shiftR j r, j + k, e1, ?_, ?_, ?_, lt_shift (lt_unshift e5), by rw [val_shift]; exact e6, r, k, e0, rfl, rfl, rfl, hq⟩
  · exact {
      le := e2.le
      own := e2.own.unshift.shift j
      pres := e2.pres
      new := fun id r' b hr' hb => by
        obtain ⟨_, r0, g1, rfl⟩ := shift_lk hr'
        exact e2.new _ _ b (lk_shift (m := i) g1) (at_shift (shiftB_at hb))
      fnew := e2.fnew
      sz := e2.sz
      tp := e2.tp }
  · exact {
      sub := e3.sub
      nxle := by rw [h5]; omega
      succ := fun id r' hid hr' => by
        obtain ⟨g0, _⟩ := shift_lk hr'
        rw [h5] at hid
        omega }
  · intro id r' hr'
    obtain ⟨g0, r0, g1, rfl⟩ := shift_lk hr'
    obtain ⟨g2, g3⟩ := hr _ _ g1
    refine ⟨by omega, fun e he => ?_⟩
    simp only [shiftB, List.mem_map] at he
    obtain ⟨e', he', rfl⟩ := he
    exact lt_shift (g3 e' he')
theorem shift_vals (n : Nat) (l : List Value) : (l.map EV.v).map (shiftE n) = l.map EV.v := by
  rw [List.map_map]; rfl
theorem shiftE_add (a b : Nat) (e : EV) : shiftE a (shiftE b e) = shiftE (a + b) e := by
  cases e <;> simp [shiftE, Nat.add_assoc]
theorem shiftR_add (a b : Nat) (rs : RL) : shiftR a (shiftR b rs) = shiftR (a + b) rs := by
  unfold shiftR
  rw [List.map_map]
  refine List.map_congr_left fun x _ => ?_
  simp only [Function.comp, shiftB, List.map_map, Nat.add_assoc]
  congr 2
  refine List.map_congr_left fun e _ => ?_
  exact shiftE_add a b e
theorem s_stopV {tb : Tb} {N : Nat} {ops : Array Oper} {kept : List Nat} {K : St → Prop} {m f : Nat} {done : Array Bool} {g : GEnv} {st : St} (h : Region.ready .any ops done = []) (k : VS N [] st K) : vcAny P tb N ops kept K (m + 1) f done g st := .inl ⟨h, k⟩
theorem named_new {nx : Nat} {Q : EV → Hp → RL → Nat → Prop} : ∀ e F' rs' nx', (∃ r k e0, rs' = shiftR nx r ∧ nx' = nx + k ∧ e = shiftE nx e0 ∧ Q e0 F' r k) → nx ≤ nx' ∧ ∀ id r, lkR rs' id = some r → nx ≤ id := fun e F' rs' nx' h => by
  obtain ⟨r, k, e0, rfl, rfl, _, _⟩ := h
  exact ⟨Nat.le_add_right _ _, fun id b hb => (shift_lk hb).1⟩
end Go.TR
