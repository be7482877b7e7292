/-
A small program logic of our own for the model. Part w: a callee, told of by the machine's own words, that turns one row of the caller's; and the sort's worlds. Nothing here speaks of one program.
-/
import Derived.Sort.Row
import Derived.Sort.Grow
import Derived.Deep.Draws
import Derived.Test.YthkkgphjjmhglaaGreatDoorDrawn
import Derived.Test.YthkkgphjjmhglaaGreatDoorSetFwD
import Derived.Lib.SlicesCompact
import Derived.Test.YthkkgphjjmhglaaGreatDoorOrdMath
/-!
A small program logic of our own for the model. Part w: a callee, told of by the machine's own words, that turns one row of the caller's; and the sort's worlds. Nothing here speaks of one program.
-/
namespace Go.TR
open Go
set_option linter.unusedVariables false
set_option linter.unusedSimpArgs false
/-- What was there and what is there now: all grown by blocks, and drawn on. -/
theorem pres_grow {W w' : World} (h : Pres [] W w') (hd : W.drawn ≤ w'.drawn) : ∃ q os', w' = Sort.grow (W.drewN q) os' := by
  refine ⟨w'.drawn - W.drawn, w'.heap.extract W.heap.size w'.heap.size, ?_⟩
  have hh : w'.heap = W.heap ++ w'.heap.extract W.heap.size w'.heap.size := by
    apply Array.ext_getElem?
    intro k
    rw [Array.getElem?_append]
    split
    · rename_i hk
      exact h.block k hk (by simp)
    · rename_i hk
      rw [Array.getElem?_extract]
      have e1 : W.heap.size + (k - W.heap.size) = k := by omega
      rw [e1]
      split
      · rfl
      · rename_i hk2
        exact Array.getElem?_eq_none (by omega)
  have h1 := h.os
  have h2 := h.tape
  have h3 := h.output
  cases w' with
  | mk heap tape drawn os output =>
    simp only at hh h1 h2 h3 hd
    subst h1 h2 h3
    show (⟨heap, W.tape, drawn, W.os, W.output⟩ : World) = ⟨W.heap ++ heap.extract W.heap.size heap.size, W.tape, W.drawn + (drawn - W.drawn), W.os, W.output⟩
    have e2 : W.drawn + (drawn - W.drawn) = drawn := by omega
    rw [e2, ← hh]
/-- A call that reads and lays blocks, in the sort's own words. -/
theorem plain_lays {P : Program} {F : Hp} {f : FuncId} {args : List Value} {x : Value} (h : Plain P F f args x) (W : World) (hF : F.le W) : Calls P f args.toArray W fun e w' => e = .returned x ∧ ∃ q os', w' = Sort.grow (W.drewN q) os' :=
  (calls_drawn (h W hF)).mono fun _ _ ⟨he, hp, hd⟩ => ⟨he, pres_grow hp hd⟩
/-- The world behind a row that was laid anew, blocks laid beside it. -/
theorem putRow_pres {α : Type} [Inhabited α] (enc : α → Value) (w : World) (b m : Nat) (d : Array α) (os : Array Obj) : Pres [b] w (Sort.grow (Sort.putRow enc (Sort.ahead w m) b 0 d) os) where
  os := rfl
  tape := rfl
  output := rfl
  size := by
    show w.heap.size ≤ ((w.heap.modify b _) ++ os).size
    simp
  block := fun k hk hx => by
    show ((w.heap.modify b _) ++ os)[k]? = w.heap[k]?
    rw [Array.getElem?_append_left (by simpa using hk), Array.getElem?_modify]
    have : b ≠ k := by rintro rfl; exact hx (by simp)
    simp [this]
theorem putRow_cells {α : Type} [Inhabited α] (enc : α → Value) {w : World} {b : Nat} (m : Nat) (d : Array α) (os : Array Obj) {cur : Array Value} {ty : TypeId} (h : w.heap[b]? = some (.cells cur ty (0, 0))) (hs : d.size ≤ cur.size) :
    ∃ cur', (Sort.grow (Sort.putRow enc (Sort.ahead w m) b 0 d) os).heap[b]? = some (.cells cur' ty (0, 0)) ∧ cur'.size = cur.size ∧ ∀ (j : Nat) (x : Value), (d.toList.map enc)[j]? = some x → cur'[j]? = some x := by
  refine ⟨Sort.putCells enc 0 d cur, ?_, by simp [Sort.putCells], fun j x hj => ?_⟩
  · show ((w.heap.modify b (Sort.onCells (Sort.putCells enc 0 d))) ++ os)[b]? = _
    rw [Array.getElem?_append_left (by simpa using (Array.getElem?_eq_some_iff.1 h).1), Array.getElem?_modify, h]
    simp [Sort.onCells]
  · rw [List.getElem?_map, Option.map_eq_some_iff] at hj
    obtain ⟨y, h1, rfl⟩ := hj
    obtain ⟨h2, h3⟩ := List.getElem?_eq_some_iff.1 h1
    have hj : j < d.size := by simpa using h2
    have h4 : d[j]! = y := by rw [getElem!_pos d j hj, ← h3]; simp
    unfold Sort.putCells
    rw [Array.getElem?_mapIdx]
    have : j < cur.size := by omega
    rw [Array.getElem?_eq_getElem this]
    simp only [Option.map_some]
    rw [if_pos ⟨Nat.zero_le _, by omega⟩, Nat.sub_zero, h4]
theorem holds_row {α : Type} [Inhabited α] (enc : α → Value) {w : World} {b : Nat} {cur : Array Value} {ty : TypeId} (h : w.heap[b]? = some (.cells cur ty (0, 0))) {d : Array α} (hd : ∀ (j : Nat) (x : Value), (d.toList.map enc)[j]? = some x → cur[j]? = some x) : Sort.Holds enc w b 0 d := fun j hj => by
  have h1 : cur[j]? = some (enc d[j]!) := hd j _ (by rw [List.getElem?_map, List.getElem?_eq_getElem (by simpa using hj), getElem!_pos d j hj]; simp)
  constructor
  · unfold World.cell?
    simp only [h]
    simpa using h1
  · unfold World.frozen?
    simp only [h]
    simp
/-- A callee that turns one row of the caller's, of known values before and behind. -/
theorem rowcall_in {P : Program} {F : Hp} {rs : RL} {nx : Nat} {f : FuncId} {args : List EV} {xs : List Value} {id b : Nat} {us vs : List Value} {ty : TypeId} {cap : Nat} {v : Value} {ev : EV} (hr : lkR rs id = some ⟨some b, us.map .v, ty, cap⟩) (hlen : us.length = vs.length) (hargs : allV rs args = some xs) (hev : ev.val rs = some v)
    (hc : ∀ (w : World) (cur : Array Value), F.le w → w.heap[b]? = some (.cells cur ty (0, 0)) → cur.size = cap → us.length ≤ cap → (∀ (j : Nat) (x : Value), us[j]? = some x → cur[j]? = some x) → Calls P f xs.toArray w fun e w' => e = .returned v ∧ Pres [b] w w' ∧ ∃ cur' : Array Value, w'.heap[b]? = some (.cells cur' ty (0, 0)) ∧ cur'.size = cap ∧ ∀ (j : Nat) (x : Value), vs[j]? = some x → cur'[j]? = some x) :
    CallIn P F rs nx f args (fun e F' rs' nx' => e = ev ∧ F' = F ∧ rs' = setR rs id ⟨some b, vs.map .v, ty, cap⟩ ∧ nx' = nx) := by
  intro c w hw hh hrids _ _ xs' hxs
  rw [hargs] at hxs
  cases hxs
  have hval := fun e => val_setR (r' := ⟨some b, vs.map .v, ty, cap⟩) hr rfl e
  obtain ⟨o1, o2, cur, o3, o4, o5⟩ := hw.own.own id _ hr
  have hin : ∀ (j : Nat) (x : Value), us[j]? = some x → cur[j]? = some x := fun j x hj => o5 j (.v x) x (by rw [List.getElem?_map, hj]; rfl) rfl
  refine (hc w cur hw.le o3 o4 (by simpa using o2) hin).mono ?_
  rintro e w' ⟨rfl, hp, cur', n3, n4, n5⟩
  have hoth : ∀ k, k < w.heap.size → k ≠ b → w'.heap[k]? = w.heap[k]? := fun k h1 h2 => hp.block k h1 (by simpa using h2)
  have hlv : ev.lt nx := lt_of_val (fun id r h => (hrids id r h).1) hev
  refine ⟨v, ev, F, _, nx, rfl, {
      le := fun k o e => by
        have hkb : k ≠ b := by
          rintro rfl
          have o1 : F k = none := o1
          rw [o1] at e; cases e
        rw [hoth k (lt_of_some (hw.le k o e)) hkb]
        exact hw.le k o e
      own := {
        own := fun k s hs => by
          rw [lkR_setR] at hs
          split at hs
          · rw [hr] at hs
            simp only [Option.map_some, Option.some.injEq] at hs
            subst hs
            refine ⟨o1, ?_, cur', n3, n4, fun j e x hj hx => ?_⟩
            · have o2 : (us.map EV.v).length ≤ cap := o2
              simp only [List.length_map] at o2 ⊢
              omega
            · have hj : (vs.map EV.v)[j]? = some e := hj
              rw [List.getElem?_map, Option.map_eq_some_iff] at hj
              obtain ⟨y, h1, rfl⟩ := hj
              simp only [EV.val, Option.some.injEq] at hx
              subst hx
              exact n5 j _ h1
          · rename_i hk
            have h1 := hw.own.own k s hs
            cases hsb : s.blk with
            | none => rw [hsb] at h1; exact h1
            | some b' =>
              rw [hsb] at h1
              obtain ⟨g1, g2, cur2, g3, g4, g5⟩ := h1
              have hbb : b' ≠ b := by
                rintro rfl
                exact hk (hw.own.apart k id s _ _ hs hr hsb rfl)
              refine ⟨g1, g2, cur2, by rw [hoth _ (lt_of_some g3) hbb]; exact g3, g4, fun j e x hj hx => g5 j e x hj ?_⟩
              rw [← hval e]; exact hx
        apart := fun i j s t b' hi hj hs ht => by
          rw [lkR_setR] at hi hj
          have conv : ∀ {k : Nat} {s : Blk}, (if k = id then (lkR rs id).map fun _ => (⟨some b, vs.map .v, ty, cap⟩ : Blk) else lkR rs k) = some s → s.blk = some b' → ∃ s', lkR rs k = some s' ∧ s'.blk = some b' := by
            intro k s hk hsb
            split at hk
            · rename_i hkid
              rw [hr] at hk
              simp only [Option.map_some, Option.some.injEq] at hk
              subst hk
              subst hkid
              exact ⟨_, hr, hsb⟩
            · exact ⟨s, hk, hsb⟩
          obtain ⟨s', hs1, hs2⟩ := conv hi hs
          obtain ⟨t', ht1, ht2⟩ := conv hj ht
          exact hw.own.apart i j s' t' b' hs1 ht1 hs2 ht2 }
      pres := hw.pres.trans' hp (fun y hy => by
        simp only [List.mem_singleton] at hy
        subst hy
        exact .inr (hw.new id _ _ hr (.inl rfl)))
      new := fun k s b' hs hsb => by
        rw [lkR_setR] at hs
        split at hs
        · rw [hr] at hs
          simp only [Option.map_some, Option.some.injEq] at hs
          subst hs
          exact hw.new id _ b' hr (Blk.at_some rfl hsb rfl)
        · exact hw.new k s b' hs hsb
      fnew := hw.fnew
      sz := Nat.le_trans hw.sz hp.size
      tp := hw.tp }, {
      sub := hh.sub
      nxle := hh.nxle
      succ := fun k s hk hs => by
        rw [lkR_setR] at hs
        split at hs
        · rename_i hkid
          subst hkid
          rw [hr] at hs
          simp only [Option.map_some, Option.some.injEq] at hs
          subst hs
          exact hh.succ k ⟨some b, us.map .v, ty, cap⟩ hk hr
        · exact hh.succ k s hk hs }, fun k s hs => ?_, hlv, (hval ev).trans hev, rfl, rfl, rfl, rfl⟩
  rw [lkR_setR] at hs
  split at hs
  · rename_i hkid
    rw [hr] at hs
    simp only [Option.map_some, Option.some.injEq] at hs
    subst hs
    subst hkid
    refine ⟨(hrids _ _ hr).1, fun e he => ?_⟩
    obtain ⟨y, _, rfl⟩ := List.mem_map.1 he
    trivial
  · exact hrids k s hs
end Go.TR
/-!
Names sorted, and equal neighbours dropped: names in order, each once. Plainly.
-/
namespace Go.Proofs.YthkkgphjjmhglaaGreatDoor
set_option linter.unusedVariables false
set_option linter.unusedSimpArgs false
open Go.TR
/-- A name that memory can hold. -/
abbrev Nm62 := { s : List UInt8 // s.length ≤ 4611686018427387904 }
instance : Inhabited Nm62 := ⟨⟨[], Nat.zero_le _⟩⟩
/-- Which of two names stands ahead, whatever they are: below nought, nought, above. -/
def cmpA (a b : List UInt8) : Int := if cmpL (pathN a) (pathN b) ≠ 0 then cmpL (pathN a) (pathN b) else cmpL a b
theorem cmpA_eq (a b : List UInt8) : cmpA a b = if ahead a b = true then -1 else if a = b then 0 else 1 := by
  unfold cmpA ahead cmpL
  by_cases h1 : Op.bytesLess (pathN a) (pathN b) = true
  · simp [h1]
  · by_cases h2 : pathN a = pathN b
    · simp [h2, bl_irr]
    · have : a ≠ b := fun e => h2 (by rw [e])
      simp [h1, h2, this]
theorem cmpA_lt (a b : List UInt8) : decide (cmpA a b < 0) = ahead a b := by
  rw [cmpA_eq]
  by_cases h : ahead a b = true
  · rw [if_pos h, h]; rfl
  · rw [if_neg h]
    have h' : ahead a b = false := by simpa using h
    rw [h']
    split <;> rfl
/-- Equal neighbours dropped. -/
theorem compact_rise {d : Array (List UInt8)} (hs : ∀ j, j + 1 < d.size → d[j]! = d[j + 1]! ∨ ahead d[j]! d[j + 1]! = true) : ∀ m, m ≤ d.size → Rise (Lib.compactUpTo d m) ∧ (∀ x ∈ Lib.compactUpTo d m, x = d[m - 1]! ∨ ahead x d[m - 1]! = true) ∧ ∀ x, x ∈ Lib.compactUpTo d m ↔ ∃ j, j < m ∧ d[j]! = x
  | 0, _ => by
    refine ⟨List.Pairwise.nil, fun x hx => (by cases hx), fun x => ⟨fun hx => (by cases hx), ?_⟩⟩
    rintro ⟨j, h, _⟩
    omega
  | m + 1, hm => by
    obtain ⟨h1, h2, h3⟩ := compact_rise hs m (by omega)
    rw [Lib.compactUpTo_succ]
    have hsub : m + 1 - 1 = m := rfl
    rw [hsub]
    by_cases h0 : m = 0
    · subst h0
      have e0 : Lib.compactUpTo d 0 = [] := rfl
      have k0 : Lib.keeps d 0 = true := Lib.keeps_lt_one d 0 (by omega)
      rw [e0, if_pos k0]
      refine ⟨List.pairwise_singleton _ _, fun x hx => .inl (by simpa using hx), fun x => ?_⟩
      constructor
      · intro hx; exact ⟨0, by omega, (by simpa using hx : x = d[0]!).symm⟩
      · rintro ⟨j, hj, rfl⟩
        have : j = 0 := by omega
        subst this
        simp
    · by_cases he : d[m]! = d[m - 1]!
      · rw [if_neg (by rw [Lib.keeps_neg (by omega) he]; decide), List.append_nil]
        refine ⟨h1, fun x hx => by rw [he]; exact h2 x hx, fun x => ?_⟩
        rw [h3]
        constructor
        · rintro ⟨j, hj, e⟩; exact ⟨j, by omega, e⟩
        · rintro ⟨j, hj, e⟩
          by_cases hjm : j = m
          · subst hjm; exact ⟨j - 1, by omega, by rw [← he]; exact e⟩
          · exact ⟨j, by omega, e⟩
      · rw [if_pos (Lib.keeps_pos he)]
        have ha : ahead d[m - 1]! d[m]! = true := by
          have := hs (m - 1) (by omega)
          rw [Nat.sub_add_cancel (by omega)] at this
          rcases this with e | e
          · exact absurd e.symm he
          · exact e
        have hall : ∀ x ∈ Lib.compactUpTo d m, ahead x d[m]! = true := fun x hx => by
          rcases h2 x hx with e | e
          · rw [e]; exact ha
          · exact ahead_trans e ha
        refine ⟨List.pairwise_append.2 ⟨h1, List.pairwise_singleton _ _, fun x hx y hy => ?_⟩, fun x hx => ?_, fun x => ?_⟩
        · rw [List.mem_singleton.1 hy]; exact hall x hx
        · rcases List.mem_append.1 hx with h | h
          · exact .inr (hall x h)
          · exact .inl (by simpa using h)
        · rw [List.mem_append, h3, List.mem_singleton]
          constructor
          · rintro (⟨j, hj, e⟩ | e)
            · exact ⟨j, by omega, e⟩
            · exact ⟨m, by omega, e.symm⟩
          · rintro ⟨j, hj, e⟩
            by_cases hjm : j = m
            · subst hjm; exact .inr e.symm
            · exact .inl ⟨j, by omega, e⟩
/-- Names sorted. -/
def sortN (l : List (List UInt8)) : List (List UInt8) := l.mergeSort fun x y => !ahead y x
theorem sortN_perm (l : List (List UInt8)) : (sortN l).Perm l := List.mergeSort_perm l _
theorem sortN_len (l : List (List UInt8)) : (sortN l).length = l.length := (sortN_perm l).length_eq
theorem sortN_map (l : List Nm62) : (l.mergeSort fun x y => !ahead y.1 x.1).map (·.1) = sortN (l.map (·.1)) := List.map_mergeSort fun _ _ _ _ => rfl
/-- Names sorted by ahead, and equal neighbours dropped. -/
theorem sort_compact (l : List (List UInt8)) : Lib.compact (sortN l) = ordN l := by
  have hp := sortN_perm l
  have hsrt : List.Pairwise (fun x y : List UInt8 => (!ahead y x) = true) (sortN l) := by
    refine List.pairwise_mergeSort (fun a b c h1 h2 => ?_) (fun a b => ?_) l
    · simp only [Bool.not_eq_true'] at h1 h2 ⊢
      by_cases h : ahead c a = true
      · by_cases e : c = b
        · rw [e, h1] at h; cases h
        · have := ahead_tri h2 e
          rw [ahead_trans this h] at h1; cases h1
      · simpa using h
    · simp only [Bool.or_eq_true, Bool.not_eq_true']
      by_cases h : ahead b a = true
      · exact .inr (ahead_asym h)
      · exact .inl (by simpa using h)
  generalize sortN l = m at hp hsrt
  have hs : ∀ j, j + 1 < m.toArray.size → m.toArray[j]! = m.toArray[j + 1]! ∨ ahead m.toArray[j]! m.toArray[j + 1]! = true := fun j hj => by
    have hl : j + 1 < m.length := by simpa using hj
    have h1 := List.pairwise_iff_getElem.1 hsrt j (j + 1) (by omega) hl (by omega)
    rw [getElem!_pos _ j (by simp; omega), getElem!_pos _ (j + 1) (by simpa using hl)]
    simp only [List.getElem_toArray, Bool.not_eq_true'] at h1 ⊢
    by_cases e : m[j] = m[j + 1]
    · exact .inl e
    · exact .inr (ahead_tri h1 (fun e' => e e'.symm))
  obtain ⟨h1, _, h3⟩ := compact_rise hs m.toArray.size (Nat.le_refl _)
  have hc : Lib.compact m = Lib.compactUpTo m.toArray m.toArray.size := by unfold Lib.compact; simp
  rw [hc]
  refine rise_eq h1 (ordN_rise _) fun s => ?_
  rw [h3, ordN_mem]
  constructor
  · rintro ⟨j, hj, e⟩
    rw [getElem!_pos _ j hj] at e
    rw [← e]
    have hl : j < m.length := by simpa using hj
    simp only [List.getElem_toArray]
    exact hp.mem_iff.1 (List.getElem_mem hl)
  · intro hs
    obtain ⟨j, hj, e2⟩ := List.getElem_of_mem (hp.mem_iff.2 hs)
    refine ⟨j, by simpa using hj, ?_⟩
    rw [getElem!_pos _ j (by simpa using hj)]
    simp only [List.getElem_toArray]
    exact e2
end Go.Proofs.YthkkgphjjmhglaaGreatDoor
