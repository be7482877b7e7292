/-
A small program logic of our own for the model. Part d: the pure operations do what the evaluator says. Nothing here speaks of one program.
-/
import Derived.Test.YtaienbnadbadfaaFwb
namespace Go.TR


theorem run_bind {P : Program} {α β : Type} (s : Sem α) (f : α → Sem β) (w : World) : (s >>= f).run P w = (match s.run P w with | .ok a w' => (f a).run P w' | .halt h w' => .halt h w') := by
  rw [Sem.run_bind]; cases s.run P w <;> rfl
theorem run_pure {P : Program} {α : Type} (a : α) (w : World) : (Pure.pure a : Sem α).run P w = .ok a w := rfl

variable {P : Program} {tb : Tb}

theorem tk_some {t : TypeId} {k : TK} (h : tk tb t = some k) : ∃ i, tb t = some i ∧ i.kind = k := by
  unfold tk at h
  split at h
  · rename_i i hi; exact ⟨i, hi, by simpa using h⟩
  · simp at h
theorem und_of_tk (htb : TbOK P tb) {t : TypeId} {k : TK} (h : tk tb t = some k) : ∃ d, P.underlying t = some d ∧ k.fits d := by
  obtain ⟨i, hi, rfl⟩ := tk_some h
  exact (htb t i hi).kind
theorem run_underlying' {t : TypeId} {d : TypeDesc} (h : P.underlying t = some d) (w : World) : (underlying t).run P w = .ok d w := by
  simp [underlying, h]
theorem run_sizeOf (htb : TbOK P tb) {t : TypeId} {i : TI} (h : tb t = some i) (w : World) : (sizeOf t).run P w = .ok i.size w := by
  obtain ⟨info, h1, h2, _⟩ := (htb t i h).info
  simp [sizeOf, typeInfo, h1, h2]
theorem run_isAgg (htb : TbOK P tb) {t : TypeId} {i : TI} (h : tb t = some i) (w : World) : (isAgg t).run P w = .ok i.kind.agg w := by
  obtain ⟨d, h1, h2⟩ := (htb t i h).kind
  cases hk : i.kind with
  | other =>
    rw [hk] at h2
    obtain ⟨h3, h4⟩ := h2
    simp only [isAgg, run_bind, run_underlying' h1, TK.agg]
    cases d <;> first | rfl | exact absurd rfl (h3 _) | exact absurd rfl (h4 _ _)
  | struct fs =>
    rw [hk] at h2
    obtain ⟨fields, rfl, _⟩ := h2
    simp only [isAgg, run_bind, run_underlying' h1, TK.agg, run_pure]
  | _ =>
    rw [hk] at h2
    simp only [TK.fits] at h2
    subst h2
    simp only [isAgg, run_bind, run_underlying' h1, TK.agg, run_pure]

/-- What a pure operation is asked for. -/
def Gives (P : Program) (s : Sem Value) (v : Value) : Prop := ∀ w, s.run P w = .ok v w
theorem Gives.of {s : Sem Value} {v : Value} (h : s = Pure.pure v) : Gives P s v := fun w => by rw [h]; rfl

theorem bl_eq (b : ByteArray) : b.toList = bl b := ByteArray.toList_eq b
theorem bl_mk (l : List UInt8) : bl (mkB l) = l := by simp [bl, mkB]
theorem mk_bl (b : ByteArray) : mkB (bl b) = b := by cases b; simp [bl, mkB]
theorem bl_size (b : ByteArray) : b.size = (bl b).length := by cases b; rfl
theorem bl_app (a b : ByteArray) : bl (a ++ b) = bl a ++ bl b := by
  obtain ⟨a⟩ := a
  obtain ⟨b⟩ := b
  simp only [bl]
  rw [ByteArray.mk_append_mk]
theorem bl_inj {a b : ByteArray} (h : bl a = bl b) : a = b := by rw [← mk_bl a, h, mk_bl]
theorem app_mk (a b : ByteArray) : a ++ b = mkB (bl a ++ bl b) := bl_inj (by rw [bl_mk, bl_app])
theorem bl_extract (s : ByteArray) (a b : Nat) : bl (s.extract a b) = ((bl s).take b).drop a := by
  unfold bl
  obtain ⟨⟨l⟩⟩ := s
  have e := ByteArray.extract_mk l a b
  rw [show (ByteArray.mk { toList := l }) = ByteArray.mk l.toArray from rfl, e]
  simp only [List.drop_take]

/-- The guard of '==' between plain values. -/
theorem eqGuard_int (op : BinOp) (t : TypeId) (x y : Operand) (k k' : IntKind) (a b : Int) : eqGuard op t x y (.int k a) (.int k' b) = Pure.pure () := by cases op <;> rfl
theorem eqGuard_str (op : BinOp) (t : TypeId) (x y : Operand) (a b : ByteArray) : eqGuard op t x y (.string a) (.string b) = Pure.pure () := by cases op <;> rfl
theorem eqGuard_bool (op : BinOp) (t : TypeId) (x y : Operand) (a b : Bool) : eqGuard op t x y (.bool a) (.bool b) = Pure.pure () := by cases op <;> rfl

theorem binInt_ok {op : BinOp} {t : TypeId} {k : IntKind} {a b : Int} {ob : Prop} {e : EV} (hop : op ≠ .shl ∧ op ≠ .shr) (h : binInt op k a b = some (ob, e)) (ho : ob) : ∃ v, e = .v v ∧ binOp op t (.int k a) (.int k b) = Pure.pure v := by
  cases op <;> simp only [binInt, ret1, Option.some.injEq, Prod.mk.injEq, reduceCtorEq] at h <;> obtain ⟨rfl, rfl⟩ := h <;> refine ⟨_, rfl, ?_⟩ <;>
    simp [binOp, Op.intArith, Op.intDiv, Op.intBits, Op.intCmp, ho]
theorem binStr_ok {op : BinOp} {t : TypeId} {a b : ByteArray} {ob : Prop} {e : EV} (h : binStr op (bl a) (bl b) = some (ob, e)) (ho : ob) : ∃ v, e = .v v ∧ binOp op t (.string a) (.string b) = Pure.pure v := by
  have hb : (bl a == bl b) = decide (bl a = bl b) := by rw [Bool.eq_iff_iff]; simp
  cases op <;> simp only [binStr, ret1, Option.some.injEq, Prod.mk.injEq, reduceCtorEq] at h <;> obtain ⟨rfl, rfl⟩ := h <;> refine ⟨_, rfl, ?_⟩ <;>
    simp only [binOp, Op.stringOp, bl_eq, hb]
  · rw [if_neg]
    · rw [app_mk]
    · simp only [maxInt] at ho
      rw [bl_size, bl_size]
      have : IntKind.i64.max = 9223372036854775807 := by decide
      rw [this]; omega

/-! Structs of scalars. -/
theorem veq_int {k k' : IntKind} {a b : Int} {r : Bool} (h : veq (.int k a) (.int k' b) = some r) : k = k' ∧ r = (a == b) := by
  simp only [veq] at h
  split at h
  · rename_i hk; exact ⟨hk, by simpa using h.symm⟩
  · simp at h
theorem eqFields_flat (htb : TbOK P tb) (w : World) (d : Nat) : ∀ (fields : List Field) (k : Nat) (xs ys : List Value) (XS YS : Array Value) (b : Bool), (∀ j, XS[k + j]? = xs[j]?) → (∀ j, YS[k + j]? = ys[j]?) → (∀ f ∈ fields, f.name ≠ "_") →
    flatOk tb k (fields.map fun f => (f.type, f.offset)) xs = true → flatOk tb k (fields.map fun f => (f.type, f.offset)) ys = true → ceq xs ys = some b → (Op.eqFields (d + 1) XS YS fields).run P w = .ok b w
  | [], k, xs, ys, XS, YS, b, _, _, _, hx, hy, hc => by
    cases xs with
    | cons x xs => simp [flatOk] at hx
    | nil =>
      cases ys with
      | cons y ys => simp [flatOk] at hy
      | nil => simp only [ceq, Option.some.injEq] at hc; subst hc; rfl
  | f :: fields, k, xs, ys, XS, YS, b, hX, hY, hn, hx, hy, hc => by
    cases xs with
    | nil => simp [flatOk] at hx
    | cons x xs =>
      cases ys with
      | nil => simp [flatOk] at hy
      | cons y ys =>
        simp only [List.map_cons, flatOk, Bool.and_eq_true, beq_iff_eq] at hx hy
        obtain ⟨⟨ho, hx1⟩, hx2⟩ := hx
        obtain ⟨⟨_, hy1⟩, hy2⟩ := hy
        simp only [ceq] at hc
        cases hv : veq x y with
        | none => simp [hv] at hc
        | some r =>
          cases hcc : ceq xs ys with
          | none => simp [hv, hcc] at hc
          | some r' =>
            simp only [hv, hcc, Option.some.injEq] at hc
            subst hc
            have hX0 := hX 0
            have hY0 := hY 0
            simp only [Nat.add_zero, List.getElem?_cons_zero] at hX0 hY0
            have ih := eqFields_flat htb w d fields (k + 1) xs ys XS YS r' (fun j => by have := hX (j + 1); simpa [Nat.add_assoc, Nat.add_comm 1 j] using this) (fun j => by have := hY (j + 1); simpa [Nat.add_assoc, Nat.add_comm 1 j] using this) (fun f hf => hn f (List.mem_cons_of_mem _ hf)) hx2 hy2 hcc
            have hname : f.name ≠ "_" := hn f (by simp)
            have key : ∀ i, tb f.type = some i → i.kind.agg = false → (Op.equalIn (d + 1) f.type x y).run P w = .ok r w → (Op.eqFields (d + 1) XS YS (f :: fields)).run P w = .ok (r && r') w := by
              intro i hi hag he
              have hA := run_isAgg htb hi w
              have p1 : (part f.type XS f.offset).run P w = .ok x w := by
                simp only [part, run_bind, hA, hag, ho, hX0]; rfl
              have p2 : (part f.type YS f.offset).run P w = .ok y w := by
                simp only [part, run_bind, hA, hag, ho, hY0]; rfl
              simp only [Op.eqFields, hname, ne_eq, not_false_eq_true, if_true, run_bind, p1, p2, he]
              cases r with
              | false => rfl
              | true => simpa using ih
            split at hx1
            · rename_i k1 _ _ _ _ k2 a hk1
              split at hy1
              · rename_i k3 _ _ _ _ k4 a' hk3
                obtain ⟨rfl, rfl⟩ := veq_int hv
                obtain ⟨dd, hd1, hd2⟩ := (htb _ _ hk1).kind
                simp only [TK.fits] at hd2
                exact key _ hk1 rfl (run_equalIn_int w d f.type _ _ _ _ (hd2 ▸ hd1))
              · exfalso; simp [veq] at hv
              · exfalso; simp [veq] at hv
              · exfalso; simp at hy1
            · rename_i hk1
              split at hy1
              · exfalso; simp [veq] at hv
              · rename_i s' hk3
                simp only [veq, Option.some.injEq] at hv
                subst hv
                obtain ⟨dd, hd1, hd2⟩ := (htb _ _ hk1).kind
                simp only [TK.fits] at hd2
                refine key _ hk1 rfl ?_
                rw [run_equalIn_string w d f.type _ _ (hd2 ▸ hd1), bl_eq, bl_eq]
                congr 1
                rw [Bool.eq_iff_iff]; simp
              · exfalso; simp [veq] at hv
              · exfalso; simp at hy1
            · rename_i hk1
              split at hy1
              · exfalso; simp [veq] at hv
              · exfalso; simp [veq] at hv
              · simp only [veq, Option.some.injEq] at hv
                subst hv
                obtain ⟨dd, hd1, hd2⟩ := (htb _ _ hk1).kind
                simp only [TK.fits] at hd2
                exact key _ hk1 rfl (run_equalIn_bool' w d f.type _ _ (hd2 ▸ hd1))
              · exfalso; simp at hy1
            · simp at hx1
theorem equal_flat (htb : TbOK P tb) (w : World) {t : TypeId} {fs : List (TypeId × Nat)} {sz by' : Nat} {z : List Value} {xs ys : Array Value} {b : Bool} (ht : tb t = some ⟨.struct fs, sz, by', z, true⟩)
    (hx : flatOk tb 0 fs xs.toList = true) (hy : flatOk tb 0 fs ys.toList = true) (hc : ceq xs.toList ys.toList = some b) : (Op.equalIn 10000 t (.agg xs) (.agg ys)).run P w = .ok b w := by
  obtain ⟨d, h1, h2⟩ := (htb t _ ht).kind
  simp only [TK.fits] at h2
  obtain ⟨fields, rfl, hf, hn⟩ := h2
  have hfo : P.fieldsOf t = fields := by simp [Program.fieldsOf, h1]
  rw [run_equalIn_struct w 9999 t xs ys (by rw [hfo]; exact h1) ((htb t _ ht).flat rfl).1, hfo]
  exact eqFields_flat htb w 9998 fields.toList 0 xs.toList ys.toList xs ys b (fun j => by simp) (fun j => by simp) hn (by rw [hf]; exact hx) (by rw [hf]; exact hy) hc

theorem binV_ok (htb : TbOK P tb) {op : BinOp} {t : TypeId} {x y : Operand} {a b : Value} {ob : Prop} {e : EV} (h : binV tb op t a b = some (ob, e)) (ho : ob) :
    ∃ v, e = .v v ∧ ∀ w, (do eqGuard op t x y a b; binOp op t a b : Sem Value).run P w = .ok v w := by
  unfold binV at h
  split at h
  · rename_i k a k' b
    split at h
    · simp only [Option.some.injEq, Prod.mk.injEq] at h
      obtain ⟨rfl, rfl⟩ := h
      refine ⟨_, rfl, fun w => ?_⟩
      simp only [eqGuard_int]
      simp [binOp, Op.shift, show ¬ b < 0 by omega]
    · simp only [Option.some.injEq, Prod.mk.injEq] at h
      obtain ⟨rfl, rfl⟩ := h
      refine ⟨_, rfl, fun w => ?_⟩
      simp only [eqGuard_int]
      simp [binOp, Op.shift, show ¬ b < 0 by omega]
    · rename_i h1 h2
      split at h
      · rename_i hk
        subst hk
        obtain ⟨v, rfl, hv⟩ := binInt_ok (t := t) ⟨h1, h2⟩ h ho
        refine ⟨v, rfl, fun w => ?_⟩
        rw [eqGuard_int, hv]; rfl
      · simp at h
  · obtain ⟨v, rfl, hv⟩ := binStr_ok (t := t) h ho
    refine ⟨v, rfl, fun w => ?_⟩
    rw [eqGuard_str, hv]; rfl
  · rename_i a b
    split at h
    · rename_i hk
      obtain ⟨d, h1, h2⟩ := und_of_tk htb hk
      simp only [TK.fits] at h2
      subst h2
      have he : ∀ w : World, (Op.equal t (.bool a) (.bool b)).run P w = .ok (a == b) w := fun w => run_equalIn_bool' w 9999 t a b h1
      split at h
      · simp only [ret1, Option.some.injEq, Prod.mk.injEq] at h
        obtain ⟨rfl, rfl⟩ := h
        refine ⟨_, rfl, fun w => ?_⟩
        simp only [eqGuard_bool, binOp]
        show (do let r ← Op.equal t (.bool a) (.bool b); Pure.pure (Value.bool r) : Sem Value).run P w = _
        rw [run_bind, he]; rfl
      · simp only [ret1, Option.some.injEq, Prod.mk.injEq] at h
        obtain ⟨rfl, rfl⟩ := h
        refine ⟨_, rfl, fun w => ?_⟩
        simp only [eqGuard_bool, binOp]
        show (do let r ← Op.equal t (.bool a) (.bool b); Pure.pure (Value.bool (!r)) : Sem Value).run P w = _
        rw [run_bind, he]; rfl
      · simp at h
    · simp at h
  · rename_i xs ys
    split at h
    · rename_i fs sz by' z ht
      split at h
      · rename_i hfl
        rw [Bool.and_eq_true] at hfl
        have hg : ∀ w : World, (eqGuard op t x y (.agg xs) (.agg ys)).run P w = .ok () w := fun w => run_eqGuard_agg w op t x y xs ys ((htb t _ ht).flat rfl).2
        split at h
        · rename_i b hc
          simp only [ret1, Option.some.injEq, Prod.mk.injEq] at h
          obtain ⟨rfl, rfl⟩ := h
          refine ⟨_, rfl, fun w => ?_⟩
          rw [run_bind, hg]
          simp only []
          rw [run_eql_struct, equal_flat htb w ht hfl.1 hfl.2 hc]; rfl
        · rename_i b hc
          simp only [ret1, Option.some.injEq, Prod.mk.injEq] at h
          obtain ⟨rfl, rfl⟩ := h
          refine ⟨_, rfl, fun w => ?_⟩
          rw [run_bind, hg]
          simp only []
          rw [run_neq_struct, equal_flat htb w ht hfl.1 hfl.2 hc]; rfl
        · simp at h
      · simp at h
    · simp at h
  · simp at h
end Go.TR
