/-
A small program logic of our own for the model. Part f: slices, builds, builtins; all pure operations together. Nothing here speaks of one program.
-/
import Derived.Lib.UnsafeStr
import Derived.Test.YtaienbnadbadfaaFwe
namespace Go.TR
variable {P : Program} {tb : Tb}

theorem run_sliceBound (k : IntKind) (i : Int) (y : Nat) (code : BoundsCode) (h0 : 0 ≤ i) (h1 : i ≤ y) (w : World) : (Instr.sliceBound (.int k i) y code).run P w = .ok i.toNat w := by
  simp only [Instr.sliceBound, run_bind, run_asIntOf, h0, h1, and_self, if_true, run_pure]
theorem run_sliceBounds (isSlice : Bool) (len cap : Nat) (kl kh : IntKind) (lo hi : Option Int) (h : ∀ l, lo = some l → 0 ≤ l ∧ l ≤ ((hi.getD len : Int))) (h' : ∀ h, hi = some h → 0 ≤ h ∧ h ≤ cap) (w : World) :
    (Instr.sliceBounds isSlice len cap (lo.map (Value.int kl)) (hi.map (Value.int kh)) none).run P w = .ok ((lo.getD 0).toNat, (hi.getD len : Int).toNat, cap) w := by
  cases hi with
  | none =>
    cases lo with
    | none => simp [Instr.sliceBounds]
    | some l =>
      obtain ⟨h1, h2⟩ := h l rfl
      simp only [Instr.sliceBounds, Option.map_some, Option.map_none, Option.isSome_none, run_bind, run_pure, Option.getD_none, Option.getD_some, Bool.false_eq_true, if_false] at h2 ⊢
      rw [run_sliceBound kl l len _ h1 h2]
      rfl
  | some u =>
    obtain ⟨h3, h4⟩ := h' u rfl
    cases lo with
    | none =>
      simp only [Instr.sliceBounds, Option.map_some, Option.map_none, run_bind, run_pure, Option.getD_none, Option.getD_some]
      rw [run_sliceBound kh u cap _ h3 h4]
      rfl
    | some l =>
      obtain ⟨h1, h2⟩ := h l rfl
      simp only [Option.getD_some] at h2
      simp only [Instr.sliceBounds, Option.map_some, run_bind, run_pure, Option.getD_some]
      rw [run_sliceBound kh u cap _ h3 h4]
      simp only []
      rw [run_sliceBound kl l u.toNat _ h1 (by omega)]
theorem sliceAt_slice {t : TypeId} (x : Value) (lo hi mx : Option Value) {d : TypeDesc} (h : P.underlying t = some d) (hd : ∀ n e, d ≠ .array n e) (w : World) : (Instr.sliceAt t x lo hi mx).run P w = (Instr.slice t x lo hi mx).run P w := by
  simp only [Instr.sliceAt, run_bind, run_underlying' h]
  try cases d <;> first | rfl | exact absurd rfl (hd _ _)
theorem sliceV_ok (htb : TbOK P tb) {t : TypeId} {kl kh : IntKind} {lo hi : Option Int} {a : Value} {ob : Prop} {e : EV} (h : sliceV tb t a lo hi = some (ob, e)) (ho : ob) :
    ∃ v, e = .v v ∧ ∀ w, (Instr.sliceAt t a (lo.map (Value.int kl)) (hi.map (Value.int kh)) none).run P w = .ok v w := by
  unfold sliceV at h
  split at h
  · rename_i s hk
    obtain ⟨d, h1, h2⟩ := und_of_tk htb hk
    simp only [TK.fits] at h2
    subst h2
    have key : (∀ l, lo = some l → 0 ≤ l ∧ l ≤ ((hi.getD s.size : Int))) → (∀ h, hi = some h → 0 ≤ h ∧ h ≤ s.size) → ∀ w, (Instr.sliceAt t (.string s) (lo.map (Value.int kl)) (hi.map (Value.int kh)) none).run P w = .ok (S (((bl s).take (hi.getD s.size : Int).toNat).drop (lo.getD 0).toNat)) w := fun g1 g2 w => by
      rw [sliceAt_slice _ _ _ _ h1 (by simp)]
      simp only [Instr.slice, run_bind, run_underlying' h1, Option.isSome_none, Bool.false_eq_true, if_false, run_pure, run_sliceBounds false s.size s.size kl kh lo hi g1 g2]
      rw [← bl_extract]
      simp only [S, mk_bl]
    split at h
    · simp only [ret1, Option.some.injEq, Prod.mk.injEq] at h
      obtain ⟨rfl, rfl⟩ := h
      refine ⟨_, rfl, fun w => ?_⟩
      have := key (by simp) (by simp) w
      simpa [bl_size] using this
    · rename_i l
      simp only [Option.some.injEq, Prod.mk.injEq] at h
      obtain ⟨rfl, rfl⟩ := h
      refine ⟨_, rfl, fun w => ?_⟩
      have := key (by intro l' h'; cases h'; simpa [bl_size] using ho) (by simp) w
      simpa [bl_size] using this
    · rename_i u
      simp only [Option.some.injEq, Prod.mk.injEq] at h
      obtain ⟨rfl, rfl⟩ := h
      refine ⟨_, rfl, fun w => ?_⟩
      have := key (by simp) (by intro l' h'; cases h'; simpa [bl_size] using ho) w
      simpa [bl_size] using this
    · rename_i l u
      simp only [Option.some.injEq, Prod.mk.injEq] at h
      obtain ⟨rfl, rfl⟩ := h
      obtain ⟨g1, g2, g3⟩ := ho
      refine ⟨_, rfl, fun w => ?_⟩
      have := key (by intro l' h'; cases h'; simp only [Option.getD_some]; omega) (by intro l' h'; cases h'; rw [bl_size]; omega) w
      simpa [bl_size] using this
  · rename_i el p n c hk
    obtain ⟨d, h1, h2⟩ := und_of_tk htb hk
    simp only [TK.fits] at h2
    subst h2
    split at h
    · rename_i ti hti
      have key : (∀ l, lo = some l → 0 ≤ l ∧ l ≤ ((hi.getD n : Int))) → (∀ h, hi = some h → 0 ≤ h ∧ h ≤ c) → ∀ w, (Instr.sliceAt t (.slice p n c) (lo.map (Value.int kl)) (hi.map (Value.int kh)) none).run P w =
          .ok (.slice (slBase p (lo.getD 0).toNat c ti.size) ((hi.getD n : Int).toNat - (lo.getD 0).toNat) (c - (lo.getD 0).toNat)) w := fun g1 g2 w => by
        rw [sliceAt_slice _ _ _ _ h1 (by simp)]
        simp only [Instr.slice, run_bind, run_underlying' h1, run_sliceBounds true n c kl kh lo hi g1 g2, run_sizeOf htb hti, run_pure]
        rfl
      split at h
      · simp only [ret1, Option.some.injEq, Prod.mk.injEq] at h
        obtain ⟨rfl, rfl⟩ := h
        refine ⟨_, rfl, fun w => ?_⟩
        have := key (by simp) (by simp) w
        simpa using this
      · rename_i l
        simp only [Option.some.injEq, Prod.mk.injEq] at h
        obtain ⟨rfl, rfl⟩ := h
        obtain ⟨g1, g2, g3⟩ := ho
        refine ⟨_, rfl, fun w => ?_⟩
        have := key (by intro l' h'; cases h'; simp only [Option.getD_none]; omega) (by simp) w
        simpa using this
      · rename_i u
        simp only [Option.some.injEq, Prod.mk.injEq] at h
        obtain ⟨rfl, rfl⟩ := h
        refine ⟨_, rfl, fun w => ?_⟩
        have := key (by simp) (by intro l' h'; cases h'; exact ho) w
        simpa using this
      · rename_i l u
        simp only [Option.some.injEq, Prod.mk.injEq] at h
        obtain ⟨rfl, rfl⟩ := h
        obtain ⟨g1, g2, g3⟩ := ho
        refine ⟨_, rfl, fun w => ?_⟩
        have := key (by intro l' h'; cases h'; simp only [Option.getD_some]; omega) (by intro l' h'; cases h'; omega) w
        simpa using this
    · simp at h
  · simp at h

theorem sliceR_ok (htb : TbOK P tb) {rs : RL} {t : TypeId} {kl kh : IntKind} {lo hi : Option Int} {id o n c : Nat} {a : Value} {ob : Prop} {e : EV} (hx : (EV.row id o n c).val rs = some a) (h : sliceR tb t id o n c lo hi = some (ob, e)) (ho : ob) :
    ∃ v, e.val rs = some v ∧ ∀ w, (Instr.sliceAt t a (lo.map (Value.int kl)) (hi.map (Value.int kh)) none).run P w = .ok v w := by
  simp only [EV.val] at hx
  split at hx
  · rename_i r hr
    simp only [Option.some.injEq] at hx
    subst hx
    have base : ∀ l m size, slBase (r.blk.map fun b => (⟨b, o, none⟩ : Addr)) l m size = r.blk.map fun b => (⟨b, slOff o l m size, none⟩ : Addr) := fun l m size => by
      unfold slBase slOff
      split <;> cases r.blk <;> simp [addr_add]
    have val : ∀ o' n' c', (EV.row id o' n' c').val rs = some (.slice (r.blk.map fun b => (⟨b, o', none⟩ : Addr)) n' c') := fun o' n' c' => by simp only [EV.val, hr]
    unfold sliceR at h
    split at h
    · rename_i el hk
      split at h
      · rename_i ti hti
        have go : ∀ x, sliceV tb t (.slice (r.blk.map fun b => (⟨b, o, none⟩ : Addr)) n c) lo hi = some (ob, .v x) → ∀ w, (Instr.sliceAt t (.slice (r.blk.map fun b => (⟨b, o, none⟩ : Addr)) n c) (lo.map (Value.int kl)) (hi.map (Value.int kh)) none).run P w = .ok x w := fun x hs => by
          obtain ⟨v, hv, hr⟩ := sliceV_ok htb (kl := kl) (kh := kh) hs ho
          cases hv
          exact hr
        split at h <;> simp only [Option.some.injEq, Prod.mk.injEq] at h <;> obtain ⟨rfl, rfl⟩ := h <;> refine ⟨_, val _ _ _, go _ ?_⟩ <;> simp only [sliceV, hk, hti, ret1, base]
        · have : slOff o 0 c ti.size = o := by unfold slOff; split <;> simp
          rw [this]
        · have : slOff o 0 c ti.size = o := by unfold slOff; split <;> simp
          rw [this]
      · simp at h
    · simp at h
  · simp at hx
theorem sliceA_ok (htb : TbOK P tb) {rs : RL} {t : TypeId} {kl kh : IntKind} {lo hi : Option Int} {id o : Nat} {a : Value} {ob : Prop} {e : EV} (hx : (EV.loc id o).val rs = some a) (h : sliceA tb t id o lo hi = some (ob, e)) :
    ∃ v, e.val rs = some v ∧ ∀ w, (Instr.sliceAt t a (lo.map (Value.int kl)) (hi.map (Value.int kh)) none).run P w = .ok v w := by
  simp only [EV.val] at hx
  split at hx
  · rename_i r hr
    split at hx
    · rename_i b hb
      simp only [Option.some.injEq] at hx
      subst hx
      unfold sliceA at h
      split at h
      · rename_i n el hk
        obtain ⟨d, h1, h2⟩ := und_of_tk htb hk
        simp only [TK.fits] at h2
        subst h2
        split at h
        · rename_i ti hti
          split at h
          · simp only [Option.some.injEq, Prod.mk.injEq] at h
            obtain ⟨_, rfl⟩ := h
            refine ⟨.slice (some ⟨b, o, none⟩) n n, by simp only [EV.val, hr, hb, Option.map_some], fun w => ?_⟩
            have hb2 := run_sliceBounds false n n kl kh none none (by simp) (by simp) w (P := P)
            simp only [Option.map_none, Option.getD_none] at hb2
            simp only [Option.map_none, Instr.sliceAt, run_bind, run_underlying' h1, Instr.sureAddr, run_pure, hb2, run_sizeOf htb hti]
            simp [addr_add]
          · simp at h
        · simp at h
      · simp at h
    · simp at hx
  · simp at hx
theorem run_sliceBounds3 (len cap : Nat) (kh km : IntKind) (h m : Int) (h1 : 0 ≤ h ∧ h ≤ m) (h2 : m ≤ cap) (w : World) :
    (Instr.sliceBounds true len cap none (some (.int kh h)) (some (.int km m))).run P w = .ok (0, h.toNat, m.toNat) w := by
  simp only [Instr.sliceBounds, run_bind, run_pure]
  rw [run_sliceBound km m cap _ (by omega) h2]
  simp only []
  rw [run_sliceBound kh h m.toNat _ h1.1 (by omega)]
theorem sliceV3_ok (htb : TbOK P tb) {t : TypeId} {kl kh km : IntKind} {lo hi : Option Int} {m : Int} {a : Value} {ob : Prop} {e : EV} (h : sliceV3 tb t a lo hi m = some (ob, e)) (ho : ob) :
    ∃ v, e = .v v ∧ ∀ w, (Instr.sliceAt t a (lo.map (Value.int kl)) (hi.map (Value.int kh)) (some (.int km m))).run P w = .ok v w := by
  unfold sliceV3 at h
  split at h
  · rename_i el p n c hk
    obtain ⟨d, h1, h2⟩ := und_of_tk htb hk
    simp only [TK.fits] at h2
    subst h2
    split at h
    · rename_i ti hti
      split at h
      · rename_i u
        simp only [Option.some.injEq, Prod.mk.injEq] at h
        obtain ⟨rfl, rfl⟩ := h
        obtain ⟨g1, g2, g3⟩ := ho
        refine ⟨_, rfl, fun w => ?_⟩
        rw [sliceAt_slice _ _ _ _ h1 (by simp)]
        simp only [Instr.slice, run_bind, run_underlying' h1, Option.map_none, Option.map_some, run_sliceBounds3 n c kh km u m ⟨g1, g2⟩ g3, run_sizeOf htb hti, run_pure, Nat.sub_zero]
        rfl
      · simp at h
    · simp at h
  · simp at h

/-! Builds. -/
theorem fold_set (off : Nat) : ∀ (l : List Value) (k : Nat) (cs : Array Value), off + k + l.length ≤ cs.size →
    ((l.zipIdx k).foldl (fun cs (x : Value × Nat) => cs.setIfInBounds (off + x.2) x.1) cs).toList = cs.toList.take (off + k) ++ l ++ cs.toList.drop (off + k + l.length)
  | [], k, cs, _ => by simp
  | v :: l, k, cs, h => by
    simp only [List.length_cons] at h
    simp only [List.zipIdx_cons, List.foldl_cons]
    rw [fold_set off l (k + 1) _ (by simp; omega)]
    apply List.ext_getElem?
    intro i
    simp only [Array.toList_setIfInBounds, List.length_cons, List.append_assoc, List.cons_append]
    rw [List.getElem?_append, List.getElem?_append, List.getElem?_append]
    simp only [List.length_take, List.length_set, Array.length_toList]
    have e1 : min (off + (k + 1)) cs.size = off + k + 1 := by omega
    have e2 : min (off + k) cs.size = off + k := by omega
    rw [e1, e2]
    by_cases c1 : i < off + k
    · rw [if_pos (by omega), if_pos c1]
      simp only [List.getElem?_take]
      rw [if_pos (by omega), if_pos c1, List.getElem?_set_ne (by omega)]
    · rw [if_neg c1]
      by_cases c2 : i = off + k
      · subst c2
        rw [if_pos (by omega)]
        simp only [List.getElem?_take]
        rw [if_pos (by omega), List.getElem?_set_self (by simp; omega)]
        simp
      · rw [if_neg (by omega)]
        obtain ⟨j, rfl⟩ : ∃ j, i = off + k + 1 + j := ⟨i - (off + k + 1), by omega⟩
        have e3 : off + k + 1 + j - (off + k + 1) = j := by omega
        have e4 : off + k + 1 + j - (off + k) = j + 1 := by omega
        rw [e3, e4, List.getElem?_cons_succ]
        rw [List.getElem?_append]
        split
        · rfl
        · rename_i c3
          simp only [List.getElem?_drop]
          rw [List.getElem?_set_ne (by omega)]
          congr 1
          omega
theorem fill_ok (place place' : Nat → Option (Nat × Nat)) (hp : ∀ i x, place i = some x → place' i = some x) : ∀ (parts : List (Nat × Value)) (cs : Array Value) (out : List Value), fillV place cs.toList parts = some out → Instr.fill place' cs parts = some out.toArray
  | [], cs, out, h => by
    simp only [fillV, Option.some.injEq] at h
    subst h
    simp [Instr.fill]
  | (i, v) :: parts, cs, out, h => by
    simp only [fillV] at h
    split at h
    · rename_i off size hpl
      split at h
      · rename_i hc
        obtain ⟨hc1, hc2⟩ := hc
        simp only [Instr.fill, hp _ _ hpl]
        have hs : v.cells.size = size := by simpa using hc1
        have hcs : off + size ≤ cs.size := by simpa using hc2
        rw [if_neg (by simp only [hs, ne_eq, not_true_eq_false, decide_false, Bool.false_or, decide_eq_true_eq]; omega)]
        have hf := fold_set off v.cells.toList 0 cs (by simp only [Nat.add_zero, Array.length_toList]; omega)
        have e : (v.cells.zipIdx.foldl (fun cs (x : Value × Nat) => cs.setIfInBounds (off + x.2) x.1) cs).toList = cs.toList.take off ++ v.cells.toList ++ cs.toList.drop (off + size) := by
          rw [← Array.foldl_toList, Array.toList_zipIdx, hf]
          simp [hs]
        refine fill_ok place place' hp parts _ out ?_
        rw [← h, ← e]
      · simp at h
    · simp at h
theorem placeS_ok (htb : TbOK P tb) {fields : Array Field} (hall : (fields.toList.map fun f => (f.type, f.offset)).all (fun f => (tb f.1).isSome) = true) (w : World) :
    ∃ places : Array (Nat × Nat), (fields.mapM (m := Sem) fun f => do Pure.pure (f.offset, ← sizeOf f.type)).run P w = .ok places w ∧
      ∀ i x, placeS tb (fields.toList.map fun f => (f.type, f.offset)) i = some x → places[i]? = some x := by
  have key : ∀ (l : List Field), (l.map fun f => (f.type, f.offset)).all (fun f => (tb f.1).isSome) = true →
      ∃ ps : List (Nat × Nat), (l.mapM (m := Sem) fun f => do Pure.pure (f.offset, ← sizeOf f.type)).run P w = .ok ps w ∧
        ∀ i x, placeS tb (l.map fun f => (f.type, f.offset)) i = some x → ps[i]? = some x := by
    intro l
    induction l with
    | nil => intro _; exact ⟨[], rfl, fun i x h => by simp [placeS] at h⟩
    | cons f l ih =>
      intro hl
      simp only [List.map_cons, List.all_cons, Bool.and_eq_true] at hl
      obtain ⟨h1, h2⟩ := hl
      obtain ⟨ps, hr, hps⟩ := ih h2
      obtain ⟨ti, hti⟩ := Option.isSome_iff_exists.1 h1
      refine ⟨(f.offset, ti.size) :: ps, ?_, ?_⟩
      · rw [List.mapM_cons]
        simp only [run_bind, run_sizeOf htb hti, run_pure, hr]
      · intro i x hx
        cases i with
        | zero => simpa [placeS, hti] using hx
        | succ i =>
          rw [List.getElem?_cons_succ]
          exact hps i x (by simpa [placeS] using hx)
  obtain ⟨ps, h1, h2⟩ := key fields.toList hall
  refine ⟨ps.toArray, ?_, fun i x hx => by simpa using h2 i x hx⟩
  rw [Array.mapM_eq_mapM_toList, ← bind_pure_comp, run_bind, h1]
  rfl
theorem buildV_ok (htb : TbOK P tb) {t : TypeId} {parts : List (Nat × Value)} {ob : Prop} {e : EV} (h : buildV tb t parts = some (ob, e)) : ∃ v, e = .v v ∧ ∀ w, (Instr.build t parts.toArray).run P w = .ok v w := by
  have zero : ∀ {i : TI}, tb t = some i → ∃ z : Value, z.cells.toList = i.zero ∧ ∀ w, (zeroValue t).run P w = .ok z w := fun {i} hi => by
    obtain ⟨info, h1, _, _, z, h2, h3⟩ := (htb t i hi).info
    exact ⟨z, h3, fun w => by simp [zeroValue, typeInfo, h1, h2]⟩
  unfold buildV at h
  split at h
  · rename_i fs sz by' z fl ht
    split at h
    · rename_i hall
      split at h
      · rename_i cs hcs
        simp only [ret1, Option.some.injEq, Prod.mk.injEq] at h
        obtain ⟨rfl, rfl⟩ := h
        refine ⟨_, rfl, fun w => ?_⟩
        obtain ⟨z', hz1, hz2⟩ := zero ht
        obtain ⟨d, h1, fields, rfl, hf, _⟩ := (htb t _ ht).kind
        subst hf
        obtain ⟨places, hp1, hp2⟩ := placeS_ok htb hall w
        simp only at hz1
        rw [← hz1] at hcs
        have := fill_ok _ (places[·]?) hp2 parts z'.cells cs hcs
        simp only [Instr.build, run_bind, hz2, run_underlying' h1]
        simp only [hp1]
        simp only [this]
        rfl
      · simp at h
    · simp at h
  · rename_i n el sz by' z fl ht
    split at h
    · rename_i ti hti
      split at h
      · rename_i cs hcs
        simp only [ret1, Option.some.injEq, Prod.mk.injEq] at h
        obtain ⟨rfl, rfl⟩ := h
        refine ⟨_, rfl, fun w => ?_⟩
        obtain ⟨z', hz1, hz2⟩ := zero ht
        obtain ⟨d, h1, h2⟩ := (htb t _ ht).kind
        simp only [TK.fits] at h2
        subst h2
        simp only at hz1
        rw [← hz1] at hcs
        have := fill_ok _ (fun i => some (i * ti.size, ti.size)) (fun i x hx => hx) parts z'.cells cs hcs
        simp only [Instr.build, run_bind, hz2, run_underlying' h1, run_sizeOf htb hti]
        simp only [this]
        rfl
      · simp at h
    · simp at h
  · simp at h

/-! All of them. -/
def Fits (rs : RL) (ρ : Operand → Option EV) (ρ' : Operand → Value) : Prop := ∀ o e, ρ o = some e → e.val rs = some (ρ' o)

theorem vals_ok {rs : RL} {ρ : Operand → Option EV} {ρ' : Operand → Value} (hρ : Fits rs ρ ρ') : ∀ {l : List Operand} {xs : List Value}, vals rs ρ l = some xs → l.map ρ' = xs
  | [], xs, h => by simpa [vals] using h
  | o :: l, xs, h => by
    simp only [vals] at h
    split at h
    · rename_i e he
      split at h
      · rename_i x ys hx hy
        simp only [Option.some.injEq] at h
        subst h
        have := hρ o e he
        rw [this] at hx
        simp only [Option.some.injEq] at hx
        subst hx
        rw [List.map_cons, vals_ok hρ hy]
      · simp at h
    · simp at h
theorem partsOf_ok {rs : RL} {ρ : Operand → Option EV} {ρ' : Operand → Value} (hρ : Fits rs ρ ρ') : ∀ {l : List (Nat × Operand)} {xs : List (Nat × Value)}, partsOf rs ρ l = some xs → (l.map fun (i, x) => (i, ρ' x)) = xs
  | [], xs, h => by simpa [partsOf] using h
  | (i, o) :: l, xs, h => by
    simp only [partsOf] at h
    split at h
    · rename_i e he
      split at h
      · rename_i x ys hx hy
        simp only [Option.some.injEq] at h
        subst h
        have := hρ o e he
        rw [this] at hx
        simp only [Option.some.injEq] at hx
        subst hx
        rw [List.map_cons, partsOf_ok hρ hy]
      · simp at h
    · simp at h
theorem evs_ok {rs : RL} {ρ : Operand → Option EV} {ρ' : Operand → Value} (hρ : Fits rs ρ ρ') : ∀ {l : List Operand} {es : List EV}, evs ρ l = some es → es.map (·.val rs) = l.map fun o => some (ρ' o)
  | [], es, h => by
    simp only [evs, Option.some.injEq] at h
    subst h; rfl
  | o :: l, es, h => by
    simp only [evs] at h
    split at h
    · rename_i e es' he hes
      simp only [Option.some.injEq] at h
      subst h
      simp only [List.map_cons, evs_ok hρ hes, hρ o e he]
    · simp at h
theorem lenV_ok (htb : TbOK P tb) {rs : RL} {t : TypeId} {x e : EV} {xv : Value} {ob : Prop} (h : lenV tb t x = some (ob, e)) (hx : x.val rs = some xv) (ty : TypeId) : ∃ v, e = .v v ∧ ∀ w, (Builtin.len_ #[t] ty #[xv]).run P w = .ok v w := by
  have sl : ∀ (p : Option Addr) (n c : Nat) (el : TypeId), tk tb t = some (.slice el) → ∀ w, (Builtin.len_ #[t] ty #[.slice p n c]).run P w = .ok (.int .i64 n) w := fun p n c el hk w => by
    obtain ⟨d, h1, h2⟩ := und_of_tk htb hk
    simp only [TK.fits] at h2
    subst h2
    simp only [Builtin.len_, List.getElem?_toArray, List.getElem?_cons_zero, run_bind, run_underlying' h1]
    rfl
  unfold lenV at h
  split at h
  · rename_i s
    simp only [EV.val, Option.some.injEq] at hx
    subst hx
    split at h
    · rename_i hk
      obtain ⟨d, h1, h2⟩ := und_of_tk htb hk
      simp only [TK.fits] at h2
      subst h2
      simp only [ret1, Option.some.injEq, Prod.mk.injEq] at h
      obtain ⟨rfl, rfl⟩ := h
      refine ⟨_, rfl, fun w => ?_⟩
      simp only [Builtin.len_, List.getElem?_toArray, List.getElem?_cons_zero, run_bind, run_underlying' h1, bl_size]
      rfl
    · simp at h
  · rename_i p n c
    simp only [EV.val, Option.some.injEq] at hx
    subst hx
    split at h
    · rename_i el hk
      simp only [ret1, Option.some.injEq, Prod.mk.injEq] at h
      obtain ⟨rfl, rfl⟩ := h
      exact ⟨_, rfl, sl p n c el hk⟩
    · simp at h
  · rename_i id n c
    split at h
    · rename_i el hk
      simp only [ret1, Option.some.injEq, Prod.mk.injEq] at h
      obtain ⟨rfl, rfl⟩ := h
      simp only [EV.val] at hx
      split at hx
      · simp only [Option.some.injEq] at hx
        subst hx
        exact ⟨_, rfl, sl _ n c el hk⟩
      · simp at hx
    · simp at h
  · simp at h
theorem capV_ok (htb : TbOK P tb) {rs : RL} {t : TypeId} {x e : EV} {xv : Value} {ob : Prop} (h : capV tb t x = some (ob, e)) (hx : x.val rs = some xv) (ty : TypeId) : ∃ v, e = .v v ∧ ∀ w, (Builtin.cap_ #[t] ty #[xv]).run P w = .ok v w := by
  have sl : ∀ (p : Option Addr) (n c : Nat) (el : TypeId), tk tb t = some (.slice el) → ∀ w, (Builtin.cap_ #[t] ty #[.slice p n c]).run P w = .ok (.int .i64 c) w := fun p n c el hk w => by
    obtain ⟨d, h1, h2⟩ := und_of_tk htb hk
    simp only [TK.fits] at h2
    subst h2
    simp only [Builtin.cap_, List.getElem?_toArray, List.getElem?_cons_zero, run_bind, run_underlying' h1]
    rfl
  unfold capV at h
  split at h
  · rename_i p n c
    simp only [EV.val, Option.some.injEq] at hx
    subst hx
    split at h
    · rename_i el hk
      simp only [ret1, Option.some.injEq, Prod.mk.injEq] at h
      obtain ⟨rfl, rfl⟩ := h
      exact ⟨_, rfl, sl p n c el hk⟩
    · simp at h
  · rename_i id n c
    split at h
    · rename_i el hk
      simp only [ret1, Option.some.injEq, Prod.mk.injEq] at h
      obtain ⟨rfl, rfl⟩ := h
      simp only [EV.val] at hx
      split at hx
      · simp only [Option.some.injEq] at hx
        subst hx
        exact ⟨_, rfl, sl _ n c el hk⟩
      · simp at hx
    · simp at h
  · simp at h
theorem value_run {s : Sem Value} {v : Value} {w : World} (h : s.run P w = .ok v w) : (do Pure.pure (Next.value (← s)) : Sem Next).run P w = .ok (.value v) w := by
  rw [run_bind, h]; rfl
theorem builtV_ok (htb : TbOK P tb) {rs : RL} {ρ : Operand → Option EV} {ρ' : Operand → Value} (hρ : Fits rs ρ ρ') {b : Builtin} {args : List Operand} {ts : List TypeId} {ob : Prop} {e : EV} (h : builtV tb rs b (evs ρ args) ts = some (ob, e)) (ho : ob) (ty : TypeId) (cs : Array Bool) :
    ∃ v, e.val rs = some v ∧ ∀ w, (builtin b ts.toArray ty cs (args.map ρ').toArray).run P w = .ok (.value v) w := by
  unfold builtV at h
  split at h
  · rename_i n c he
    have h1 := evs_ok hρ he
    rcases args with _ | ⟨o, _ | ⟨o', l⟩⟩ <;> simp only [List.map_cons, List.map_nil, List.cons.injEq, and_true, reduceCtorEq, and_false, EV.val, Option.some.injEq] at h1
    simp only [Option.some.injEq, Prod.mk.injEq] at h
    obtain ⟨rfl, rfl⟩ := h
    refine ⟨_, rfl, fun w => value_run ?_⟩
    simp only [List.map_cons, List.map_nil, ← h1]
    exact Lib.run_unsafeSliceData_nil w _ _ _ _
  · rename_i id off n c he
    have h1 := evs_ok hρ he
    rcases args with _ | ⟨o, _ | ⟨o', l⟩⟩ <;> simp only [List.map_cons, List.map_nil, List.cons.injEq, and_true, reduceCtorEq, and_false] at h1
    simp only [Option.some.injEq, Prod.mk.injEq] at h
    obtain ⟨rfl, rfl⟩ := h
    obtain ⟨hc, r, b, hr, hb⟩ := ho
    simp only [EV.val, hr, hb, Option.map_some, Option.some.injEq] at h1
    refine ⟨.pointer (some ⟨b, off, none⟩), by simp only [EV.val, hr, hb], fun w => value_run ?_⟩
    simp only [List.map_cons, List.map_nil, ← h1]
    exact Lib.run_unsafeSliceData_row w _ _ _ _ _ hc
  · rename_i x t he
    have h1 := evs_ok hρ he
    rcases args with _ | ⟨o, _ | ⟨o', l⟩⟩ <;> simp only [List.map_cons, List.map_nil, List.cons.injEq, and_true, reduceCtorEq, and_false] at h1
    · skip
      obtain ⟨v, rfl, hv⟩ := lenV_ok htb h h1 ty
      exact ⟨v, rfl, fun w => value_run (hv w)⟩
  · rename_i x t he
    have h1 := evs_ok hρ he
    rcases args with _ | ⟨o, _ | ⟨o', l⟩⟩ <;> simp only [List.map_cons, List.map_nil, List.cons.injEq, and_true, reduceCtorEq, and_false] at h1
    · skip
      obtain ⟨v, rfl, hv⟩ := capV_ok htb h h1 ty
      exact ⟨v, rfl, fun w => value_run (hv w)⟩
  · rename_i x y he
    have h1 := evs_ok hρ he
    rcases args with _ | ⟨o, _ | ⟨o', _ | ⟨o'', l⟩⟩⟩ <;> simp only [List.map_cons, List.map_nil, List.cons.injEq, and_true, EV.val, Option.some.injEq, reduceCtorEq, and_false, List.nil_eq, List.cons_ne_self] at h1
    · obtain ⟨rfl, rfl⟩ := h1
      unfold minV at h
      split at h
      · simp only [ret1, Option.some.injEq, Prod.mk.injEq] at h
        obtain ⟨rfl, rfl⟩ := h
        rename_i k a k' b' ha hb
        refine ⟨_, rfl, fun w => value_run ?_⟩
        simp only [List.map_cons, List.map_nil, ha, hb]
        rfl
      · simp at h
  · rename_i x y he
    have h1 := evs_ok hρ he
    rcases args with _ | ⟨o, _ | ⟨o', _ | ⟨o'', l⟩⟩⟩ <;> simp only [List.map_cons, List.map_nil, List.cons.injEq, and_true, EV.val, Option.some.injEq, reduceCtorEq, and_false, List.nil_eq, List.cons_ne_self] at h1
    · obtain ⟨rfl, rfl⟩ := h1
      unfold maxV at h
      split at h
      · simp only [ret1, Option.some.injEq, Prod.mk.injEq] at h
        obtain ⟨rfl, rfl⟩ := h
        rename_i k a k' b' ha hb
        refine ⟨_, rfl, fun w => value_run ?_⟩
        simp only [List.map_cons, List.map_nil, ha, hb]
        rfl
      · simp at h
  · simp at h
theorem bound_ok {rs : RL} {ρ : Operand → Option EV} {ρ' : Operand → Value} (hρ : Fits rs ρ ρ') {o : Option Operand} {r : Option Int} (h : bound ρ o = some r) : ∃ k, o.map ρ' = r.map (Value.int k) := by
  unfold bound at h
  split at h
  · simp only [Option.some.injEq] at h
    subst h
    exact ⟨.i64, rfl⟩
  · rename_i o'
    split at h
    · rename_i k n he
      simp only [Option.some.injEq] at h
      subst h
      have := hρ _ _ he
      simp only [EV.val, Option.some.injEq] at this
      exact ⟨k, by simp [this]⟩
    · simp at h

theorem pv_ok (htb : TbOK P tb) {rs : RL} {ρ : Operand → Option EV} {ρ' : Operand → Value} (hρ : Fits rs ρ ρ') {o : Oper} {ob : Prop} {e : EV} (h : pv tb rs ρ o.op = some (ob, e)) (ho : ob) :
    ∃ v, e.val rs = some v ∧ ∀ w, (execOp ρ' o).run P w = .ok (.value v) w := by
  obtain ⟨dst, op, type, pos, after, guard⟩ := o
  simp only at h
  unfold pv at h
  split at h
  · rename_i x
    split at h
    · rename_i ev hx
      simp only [Option.some.injEq, Prod.mk.injEq] at h
      obtain ⟨rfl, rfl⟩ := h
      exact ⟨_, hρ _ _ hx, fun w => rfl⟩
    · simp at h
  · rename_i x
    split at h
    · rename_i ev hx
      simp only [Option.some.injEq, Prod.mk.injEq] at h
      obtain ⟨rfl, rfl⟩ := h
      exact ⟨_, hρ _ _ hx, fun w => rfl⟩
    · simp at h
  · rename_i op t x y yt
    split at h
    · rename_i a b hx hy
      have e1 := hρ _ _ hx
      have e2 := hρ _ _ hy
      simp only [EV.val, Option.some.injEq] at e1 e2
      obtain ⟨v, rfl, hv⟩ := binV_ok htb (x := x) (y := y) h ho
      refine ⟨v, rfl, fun w => ?_⟩
      simp only [execOp, ← e1, ← e2]
      exact value_run (hv w)
    · simp at h
  · rename_i op t x
    split at h
    · rename_i a hx
      have e1 := hρ _ _ hx
      simp only [EV.val, Option.some.injEq] at e1
      obtain ⟨v, rfl, hv⟩ := unV_ok (P := P) h
      refine ⟨v, rfl, fun w => ?_⟩
      simp only [execOp, ← e1]
      exact value_run (hv w)
    · simp at h
  · rename_i src dst' x
    split at h
    · rename_i i a hsrc hx
      have e1 := hρ _ _ hx
      simp only [EV.val, Option.some.injEq] at e1
      obtain ⟨d, hd, _⟩ := (htb _ _ hsrc).kind
      obtain ⟨v, rfl, hv⟩ := convV_ok htb ⟨d, hd⟩ h
      refine ⟨v, rfl, fun w => ?_⟩
      simp only [execOp, ← e1]
      exact value_run (hv w)
    · simp at h
  · rename_i t x f
    split at h
    · rename_i a hx
      have e1 := hρ _ _ hx
      simp only [EV.val, Option.some.injEq] at e1
      obtain ⟨v, rfl, hv⟩ := fieldV_ok htb h
      refine ⟨v, rfl, fun w => ?_⟩
      simp only [execOp, ← e1]
      exact value_run (hv w)
    · simp at h
  · rename_i x i
    split at h
    · rename_i a hx
      have e1 := hρ _ _ hx
      simp only [EV.val, Option.some.injEq] at e1
      obtain ⟨v, rfl, hv⟩ := extractV_ok (P := P) h
      refine ⟨v, rfl, fun w => ?_⟩
      simp only [execOp, ← e1]
      exact value_run (hv w)
    · simp at h
  · rename_i t x f
    split at h
    · rename_i ev hx
      obtain ⟨v, he, hv⟩ := fieldAddrV_ok htb h (hρ _ _ hx) ho
      exact ⟨v, he, fun w => value_run (hv w)⟩
    · simp at h
  · rename_i t x i
    split at h
    · rename_i ev k n hx hi
      have e2 := hρ _ _ hi
      simp only [EV.val, Option.some.injEq] at e2
      obtain ⟨v, he, hv⟩ := indexAddrV_ok htb (k := k) h (hρ _ _ hx) ho
      refine ⟨v, he, fun w => ?_⟩
      simp only [execOp, ← e2]
      exact value_run (hv w)
    · simp at h
  · rename_i t x i
    split at h
    · rename_i a k n hx hi
      have e1 := hρ _ _ hx
      have e2 := hρ _ _ hi
      simp only [EV.val, Option.some.injEq] at e1 e2
      obtain ⟨v, rfl, hv⟩ := indexV_ok htb (k := k) h ho
      refine ⟨v, rfl, fun w => ?_⟩
      simp only [execOp, ← e1, ← e2]
      exact value_run (hv w)
    · simp at h
  · rename_i t x lo hi
    unfold sliceGo at h
    split at h
    · rename_i a l u hx hl hu
      have e1 := hρ _ _ hx
      simp only [EV.val, Option.some.injEq] at e1
      obtain ⟨kl, e2⟩ := bound_ok hρ hl
      obtain ⟨kh, e3⟩ := bound_ok hρ hu
      obtain ⟨v, rfl, hv⟩ := sliceV_ok htb (kl := kl) (kh := kh) h ho
      refine ⟨v, rfl, fun w => ?_⟩
      simp only [execOp, ← e1, e2, e3]
      exact value_run (hv w)
    · rename_i id o n c l u hx hl hu
      have e1 := hρ _ _ hx
      obtain ⟨kl, e2⟩ := bound_ok hρ hl
      obtain ⟨kh, e3⟩ := bound_ok hρ hu
      obtain ⟨v, hv1, hv⟩ := sliceR_ok htb (kl := kl) (kh := kh) e1 h ho
      refine ⟨v, hv1, fun w => ?_⟩
      simp only [execOp, e2, e3]
      exact value_run (hv w)
    · rename_i id o l u hx hl hu
      have e1 := hρ _ _ hx
      obtain ⟨kl, e2⟩ := bound_ok hρ hl
      obtain ⟨kh, e3⟩ := bound_ok hρ hu
      obtain ⟨v, hv1, hv⟩ := sliceA_ok htb (kl := kl) (kh := kh) e1 h
      refine ⟨v, hv1, fun w => ?_⟩
      simp only [execOp, e2, e3]
      exact value_run (hv w)
    · simp at h
  · rename_i t x lo hi m
    unfold sliceGo3 at h
    split at h
    · rename_i a l u mm hx hl hu hm
      have e1 := hρ _ _ hx
      simp only [EV.val, Option.some.injEq] at e1
      obtain ⟨kl, e2⟩ := bound_ok hρ hl
      obtain ⟨kh, e3⟩ := bound_ok hρ hu
      obtain ⟨km, e4⟩ := bound_ok hρ hm
      obtain ⟨v, rfl, hv⟩ := sliceV3_ok htb (kl := kl) (kh := kh) (km := km) h ho
      refine ⟨v, rfl, fun w => ?_⟩
      simp only [Option.map_some] at e4
      simp only [execOp, ← e1, e2, e3, Option.map_some, e4]
      exact value_run (hv w)
    · simp at h
  · rename_i t parts
    split at h
    · rename_i ps hps
      obtain ⟨v, rfl, hv⟩ := buildV_ok htb h
      refine ⟨v, rfl, fun w => ?_⟩
      have e1 := partsOf_ok hρ hps
      have e2 : (parts.map fun (i, x) => (i, ρ' x)) = ps.toArray := by
        apply Array.ext'
        simpa using e1
      simp only [execOp, e2]
      exact value_run (hv w)
    · simp at h
  · rename_i fn first captured
    split at h
    · rename_i xs ys hx hy
      simp only [ret1, Option.some.injEq, Prod.mk.injEq] at h
      obtain ⟨rfl, rfl⟩ := h
      refine ⟨_, rfl, fun w => ?_⟩
      have e1 := vals_ok hρ hx
      have e2 := vals_ok hρ hy
      have e3 : first.map ρ' = xs.toArray := by apply Array.ext'; simpa using e1
      have e4 : captured.map ρ' = ys.toArray := by apply Array.ext'; simpa using e2
      simp only [execOp, e3, e4, Instr.makeFunc]
      rfl
    · simp at h
  · rename_i x
    split at h
    · rename_i p hx
      have e1 := hρ _ _ hx
      simp only [EV.val, Option.some.injEq] at e1
      simp only [Option.some.injEq, Prod.mk.injEq] at h
      obtain ⟨rfl, rfl⟩ := h
      refine ⟨_, rfl, fun w => ?_⟩
      cases p with
      | none => simp at ho
      | some a => simp only [execOp, ← e1]; rfl
    · rename_i id o' hx
      have e1 := hρ _ _ hx
      simp only [Option.some.injEq, Prod.mk.injEq] at h
      obtain ⟨rfl, rfl⟩ := h
      refine ⟨_, e1, fun w => ?_⟩
      have e2 := e1
      simp only [EV.val] at e2
      split at e2
      · split at e2
        · simp only [Option.some.injEq] at e2
          simp only [execOp, ← e2]
          rfl
        · simp at e2
      · simp at e2
    · simp at h
  · rename_i b args ts
    obtain ⟨v, he, hv⟩ := builtV_ok htb hρ h ho type (args.map fun | .const _ => true | _ => false)
    refine ⟨v, he, fun w => ?_⟩
    have := hv w
    simp only [execOp, resolve, run_bind, run_pure, invoke]
    have e1 : (args.toList.map ρ').toArray = args.map ρ' := by apply Array.ext'; simp
    rw [e1] at this
    exact this
  · simp at h
end Go.TR
