/-
A small program logic of our own for the model. Part e: the pure operations, the rest of them. Nothing here speaks of one program.
-/
import Derived.Test.YtaienbnadbadfaaFwd
namespace Go.TR
variable {P : Program} {tb : Tb}

theorem toArray_toList' (cs : Array Value) : cs.toList.toArray = cs := by simp
theorem extract_eq (cs : Array Value) (a b : Nat) : cs.extract a b = ((cs.toList.take b).drop a).toArray := by
  apply Array.ext'
  simp [List.drop_take]
theorem part_ok (htb : TbOK P tb) {t : TypeId} {cs : Array Value} {off : Nat} {x : Value} (h : partV tb t cs.toList off = some x) (w : World) : (part t cs off).run P w = .ok x w := by
  unfold partV at h
  split at h
  · rename_i i hi
    have h1 := run_isAgg htb hi w
    have h2 := run_sizeOf htb hi w
    split at h
    · rename_i ha
      rw [ha] at h1
      simp only [Option.some.injEq] at h
      subst h
      simp only [part, run_bind, h1, if_true, h2]
      rw [extract_eq]; rfl
    · rename_i ha
      have ha' : i.kind.agg = false := by simpa using ha
      rw [ha'] at h1
      have h3 : cs[off]? = some x := by simpa using h
      simp only [part, run_bind, h1, Bool.false_eq_true, if_false, h3]
      rfl
  · simp at h

theorem unV_ok {op : UnOp} {a : Value} {ob : Prop} {e : EV} (h : unV op a = some (ob, e)) : ∃ v, e = .v v ∧ ∀ w, (Op.unary op a).run P w = .ok v w := by
  unfold unV at h
  split at h
  · simp only [ret1, Option.some.injEq, Prod.mk.injEq] at h
    obtain ⟨rfl, rfl⟩ := h
    exact ⟨_, rfl, fun w => rfl⟩
  · simp only [ret1, Option.some.injEq, Prod.mk.injEq] at h
    obtain ⟨rfl, rfl⟩ := h
    exact ⟨_, rfl, fun w => rfl⟩
  · simp at h
/-- The kind of a source type that a value's form tells. -/
theorem convV_ok (htb : TbOK P tb) {src dst : TypeId} {a : Value} {ob : Prop} {e : EV} (hs : ∃ d, P.underlying src = some d) (h : convV tb dst a = some (ob, e)) : ∃ v, e = .v v ∧ ∀ w, (convert src dst a).run P w = .ok v w := by
  obtain ⟨ds, hs⟩ := hs
  unfold convV at h
  split at h
  · rename_i k n
    split at h
    · rename_i k' hk
      obtain ⟨d, h1, h2⟩ := und_of_tk htb hk
      simp only [TK.fits] at h2
      subst h2
      simp only [ret1, Option.some.injEq, Prod.mk.injEq] at h
      obtain ⟨rfl, rfl⟩ := h
      refine ⟨_, rfl, fun w => ?_⟩
      simp only [convert, run_bind, run_underlying' hs, run_underlying' h1]
      rfl
    · simp at h
  · rename_i s
    split at h
    · rename_i hk
      obtain ⟨d, h1, h2⟩ := und_of_tk htb hk
      simp only [TK.fits] at h2
      subst h2
      simp only [ret1, Option.some.injEq, Prod.mk.injEq] at h
      obtain ⟨rfl, rfl⟩ := h
      refine ⟨_, rfl, fun w => ?_⟩
      simp only [convert, run_bind, run_underlying' hs, run_underlying' h1]
      rfl
    · simp at h
  · simp at h

theorem fieldV_ok (htb : TbOK P tb) {t : TypeId} {f : Nat} {a : Value} {ob : Prop} {e : EV} (h : fieldV tb t f a = some (ob, e)) : ∃ v, e = .v v ∧ ∀ w, (Instr.field t a f).run P w = .ok v w := by
  unfold fieldV at h
  split at h
  · rename_i cs
    split at h
    · rename_i fs hk
      obtain ⟨d, h1, fields, rfl, hf, _⟩ := und_of_tk htb hk
      split at h
      · rename_i ft off hfo
        split at h
        · rename_i x hx
          simp only [ret1, Option.some.injEq, Prod.mk.injEq] at h
          obtain ⟨rfl, rfl⟩ := h
          refine ⟨_, rfl, fun w => ?_⟩
          rw [← hf, List.getElem?_map, Option.map_eq_some_iff] at hfo
          obtain ⟨fd, hfd, he⟩ := hfo
          simp only [Prod.mk.injEq] at he
          obtain ⟨rfl, rfl⟩ := he
          have hfd' : fields[f]? = some fd := by simpa using hfd
          simp only [Instr.field, run_bind, run_underlying' h1, hfd', asAgg]
          exact part_ok htb hx w
        · simp at h
      · simp at h
    · simp at h
  · simp at h
theorem extractV_ok {i : Nat} {a : Value} {ob : Prop} {e : EV} (h : extractV i a = some (ob, e)) : ∃ v, e = .v v ∧ ∀ w, (Instr.extract a i).run P w = .ok v w := by
  unfold extractV at h
  split at h
  · rename_i vs
    split at h
    · rename_i x hx
      simp only [ret1, Option.some.injEq, Prod.mk.injEq] at h
      obtain ⟨rfl, rfl⟩ := h
      refine ⟨_, rfl, fun w => ?_⟩
      have hx' : vs[i]? = some x := by simpa using hx
      simp only [Instr.extract, hx']; rfl
    · simp at h
  · simp at h

theorem addr_add (b o n : Nat) : (⟨b, o, none⟩ : Addr).add n = ⟨b, o + n, none⟩ := by
  unfold Addr.add; split <;> simp_all
theorem fieldPlace_ok (htb : TbOK P tb) {f : Field} {i : TI} (h : tb f.type = some i) (hz : i.size ≠ 0) (a : Addr) (w : World) : (fieldPlace a f).run P w = .ok (a.add f.offset) w := by
  simp only [fieldPlace, run_bind, run_sizeOf htb h, hz, if_false]
  rfl
theorem fieldAddrV_ok (htb : TbOK P tb) {rs : RL} {t : TypeId} {f : Nat} {x e : EV} {xv : Value} {ob : Prop} (h : fieldAddrV tb t f x = some (ob, e)) (hx : x.val rs = some xv) (ho : ob) : ∃ v, e.val rs = some v ∧ ∀ w, (Instr.fieldAt t xv f).run P w = .ok v w := by
  unfold fieldAddrV at h
  split at h
  · rename_i fs hk
    obtain ⟨d, h1, fields, rfl, hf, _⟩ := und_of_tk htb hk
    split at h
    · rename_i ft off hfo
      rw [← hf, List.getElem?_map, Option.map_eq_some_iff] at hfo
      obtain ⟨fd, hfd, he⟩ := hfo
      simp only [Prod.mk.injEq] at he
      obtain ⟨rfl, rfl⟩ := he
      have hfd' : fields[f]? = some fd := by simpa using hfd
      split at h
      · rename_i i hi
        split at h
        · simp at h
        · rename_i hz
          have key : ∀ a : Addr, ∀ w, (Instr.fieldAt t (.pointer (some a)) f).run P w = .ok (.pointer (some (a.add fd.offset))) w := fun a w => by
            simp only [Instr.fieldAt, run_bind, run_underlying' h1, hfd', Instr.sureAddr]
            simp only [run_pure, fieldPlace_ok htb hi hz]
          split at h
          · rename_i p
            simp only [Option.some.injEq, Prod.mk.injEq] at h
            obtain ⟨rfl, rfl⟩ := h
            simp only [EV.val, Option.some.injEq] at hx
            subst hx
            cases p with
            | none => simp at ho
            | some a => exact ⟨_, rfl, key a⟩
          · rename_i id o
            simp only [Option.some.injEq, Prod.mk.injEq] at h
            obtain ⟨rfl, rfl⟩ := h
            simp only [EV.val] at hx ⊢
            cases hr : lkR rs id with
            | none => simp [hr] at hx
            | some r =>
              cases hb : r.blk with
              | none => simp [hr, hb] at hx
              | some b =>
                simp only [hr, hb, Option.some.injEq] at hx
                subst hx
                refine ⟨_, by simp only [hb]; rfl, fun w => ?_⟩
                rw [key, addr_add]
          · simp at h
      · simp at h
    · simp at h
  · simp at h

theorem run_asIntOf (k : IntKind) (i : Int) (w : World) : (asIntOf (.int k i)).run P w = .ok (k, i) w := rfl
theorem indexAddrV_ok (htb : TbOK P tb) {rs : RL} {t : TypeId} {k : IntKind} {i : Int} {x e : EV} {xv : Value} {ob : Prop} (h : indexAddrV tb rs t x i = some (ob, e)) (hx : x.val rs = some xv) (ho : ob) : ∃ v, e.val rs = some v ∧ ∀ w, (Instr.indexAt t xv (.int k i)).run P w = .ok v w := by
  unfold indexAddrV at h
  split at h
  · rename_i el hk
    obtain ⟨d, h1, h2⟩ := und_of_tk htb hk
    simp only [TK.fits] at h2
    subst h2
    split at h
    · rename_i ti hti
      have key : ∀ (a : Addr) (n c : Nat), 0 ≤ i → i < n → ∀ w, (Instr.indexAt t (.slice (some a) n c) (.int k i)).run P w = .ok (.pointer (some (a.add (i.toNat * ti.size)))) w := fun a n c g1 g2 w => by
        simp only [Instr.indexAt, run_bind, run_asIntOf, run_underlying' h1, run_pure]
        simp only [g1, g2, if_true, run_bind, run_sizeOf htb hti, and_self, run_pure]
      split at h
      · rename_i p n c
        simp only [Option.some.injEq, Prod.mk.injEq] at h
        obtain ⟨rfl, rfl⟩ := h
        simp only [EV.val, Option.some.injEq] at hx
        subst hx
        obtain ⟨g1, g2, g3⟩ := ho
        cases p with
        | none => simp at g3
        | some a => exact ⟨_, rfl, key a n c g1 g2⟩
      · rename_i id o n c
        simp only [Option.some.injEq, Prod.mk.injEq] at h
        obtain ⟨rfl, rfl⟩ := h
        obtain ⟨g1, g2, r, b, hr, hb⟩ := ho
        simp only [EV.val, hr, hb, Option.map_some, Option.some.injEq] at hx ⊢
        subst hx
        refine ⟨_, rfl, fun w => ?_⟩
        rw [key _ n c g1 g2, addr_add]
      · simp at h
    · simp at h
  · rename_i n el hk
    obtain ⟨d, h1, h2⟩ := und_of_tk htb hk
    simp only [TK.fits] at h2
    subst h2
    split at h
    · rename_i ti hti
      have key : ∀ (a : Addr), 0 ≤ i → i < n → ∀ w, (Instr.indexAt t (.pointer (some a)) (.int k i)).run P w = .ok (.pointer (some (a.add (i.toNat * ti.size)))) w := fun a g1 g2 w => by
        simp only [Instr.indexAt, run_bind, run_asIntOf, run_underlying' h1, run_pure, Instr.sureAddr]
        simp only [g1, g2, if_true, run_bind, run_sizeOf htb hti, and_self, run_pure]
      split at h
      · rename_i p
        simp only [Option.some.injEq, Prod.mk.injEq] at h
        obtain ⟨rfl, rfl⟩ := h
        simp only [EV.val, Option.some.injEq] at hx
        subst hx
        obtain ⟨g1, g2, g3⟩ := ho
        cases p with
        | none => simp at g3
        | some a => exact ⟨_, rfl, key a g1 g2⟩
      · rename_i id o
        simp only [Option.some.injEq, Prod.mk.injEq] at h
        obtain ⟨rfl, rfl⟩ := h
        obtain ⟨g1, g2⟩ := ho
        simp only [EV.val] at hx ⊢
        cases hr : lkR rs id with
        | none => simp [hr] at hx
        | some r =>
          cases hb : r.blk with
          | none => simp [hr, hb] at hx
          | some b =>
            simp only [hr, hb, Option.some.injEq] at hx
            subst hx
            refine ⟨_, by simp only [hb]; rfl, fun w => ?_⟩
            rw [key _ g1 g2, addr_add]
      · simp at h
    · simp at h
  · simp at h

theorem byte_at (s : ByteArray) (i : Nat) : s[i]? = (bl s)[i]? := by
  obtain ⟨⟨l⟩⟩ := s
  simp only [bl]
  rw [getElem?_def, getElem?_def]
  rfl
theorem indexV_ok (htb : TbOK P tb) {t : TypeId} {k : IntKind} {i : Int} {a : Value} {ob : Prop} {e : EV} (h : indexV tb t a i = some (ob, e)) (ho : ob) : ∃ v, e = .v v ∧ ∀ w, (Instr.index t a (.int k i)).run P w = .ok v w := by
  unfold indexV at h
  split at h
  · rename_i s hk
    obtain ⟨d, h1, h2⟩ := und_of_tk htb hk
    simp only [TK.fits] at h2
    subst h2
    simp only [Option.some.injEq, Prod.mk.injEq] at h
    obtain ⟨rfl, rfl⟩ := h
    obtain ⟨g1, g2⟩ := ho
    refine ⟨_, rfl, fun w => ?_⟩
    have hl : i.toNat < (bl s).length := by omega
    have hb : s[i.toNat]? = some ((bl s).getD i.toNat 0) := by rw [byte_at, List.getD_eq_getElem?_getD, List.getElem?_eq_getElem hl]; rfl
    simp only [Instr.index, run_bind, run_asIntOf, run_underlying' h1, g1, if_true, hb, run_pure]
  · rename_i n el cs hk
    obtain ⟨d, h1, h2⟩ := und_of_tk htb hk
    simp only [TK.fits] at h2
    subst h2
    split at h
    · rename_i ti hti
      split at h
      · rename_i y hy
        simp only [Option.some.injEq, Prod.mk.injEq] at h
        obtain ⟨rfl, rfl⟩ := h
        obtain ⟨g1, g2⟩ := ho
        refine ⟨_, rfl, fun w => ?_⟩
        simp only [Instr.index, run_bind, run_asIntOf, run_underlying' h1, g1, g2, and_self, if_true, run_sizeOf htb hti]
        exact part_ok htb hy w
      · simp at h
    · simp at h
  · simp at h

end Go.TR
