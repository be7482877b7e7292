/-
A small program logic of our own for the model. Part p: steps by the machine's own words: pointers compared, pointers seen as addresses and back, bytes read as a string without a copy.
-/
import Derived.Lib.Builder
import Derived.Lib.UnsafeStr
import Derived.Laws.Externs
import Derived.Test.YtaienbnadbadfaaFwo
namespace Go.TR
open Go
section
variable {P : Program} {tb : Tb} {N : Nat} {all rest : List Oper} {K : GEnv → St → Prop} {st : St}
theorem opd_eval {c : Ctx} {a : Act} {w : World} (h : GSat c N [] st a w) {x : Operand} {e : EV} (hx : opd st.rs [] st.env [] x = some e) : e.val st.rs = some (a.eval x) := fits_opd h (gA_nil a) _ _ hx
def peqE (op : BinOp) : Option EV → Option EV → Option Bool
  | some (.v (.pointer none)), some (.v (.pointer none)) => match op with
    | .eql => some true
    | .neq => some false
    | _ => none
  | some (.loc _ _), some (.v (.pointer none)) => match op with
    | .eql => some false
    | .neq => some true
    | _ => none
  | some (.loc i o), some (.loc j o') => match Nat.beq i j && Nat.beq o o' with
    | true => (match op with
      | .eql => some true
      | .neq => some false
      | _ => none)
    | false => none
  | _, _ => none
theorem run_peq {t e : TypeId} {j : TypeInfo} (hp : P.underlying t = some (.pointer e)) (hte : P.info? e = some j) (w : World) :
    (∀ a : Option Addr, (binOp .eql t (.pointer a) (.pointer none)).run P w = .ok (.bool a.isNone) w) ∧ (∀ a : Option Addr, (binOp .neq t (.pointer a) (.pointer none)).run P w = .ok (.bool (!a.isNone)) w) ∧
    (∀ a : Addr, (binOp .eql t (.pointer (some a)) (.pointer (some a))).run P w = .ok (.bool true) w) ∧ (∀ a : Addr, (binOp .neq t (.pointer (some a)) (.pointer (some a))).run P w = .ok (.bool false) w) := by
  have h : ∀ (d : Nat) (a : Option Addr), (Op.equalIn (d + 1) t (.pointer a) (.pointer none)).run P w = .ok a.isNone w := fun d a => by
    cases a <;> simp [Op.equalIn, run_underlying hp]
  have h2 : ∀ (d : Nat) (a : Addr), (Op.equalIn (d + 1) t (.pointer (some a)) (.pointer (some a))).run P w = .ok true w := fun d a => by
    simp [Op.equalIn, run_underlying hp, sizeOf, typeInfo, hte, run_sameAddr_same]
  refine ⟨fun a => ?_, fun a => ?_, fun a => ?_, fun a => ?_⟩ <;> simp only [binOp] <;> simp [Op.equal, Op.maxDepth, h 9999, h2 9999]
/-- Pointers compared. -/
theorem s_peq {d : Nat} {op : BinOp} {t u e : TypeId} {ti : TI} {x y : Operand} {ty : TypeId} {pos : String} {af : Array Edge} {env : Env} {F : Hp} {rs : RL} {nx : Nat} {b : Bool} (htb : TbOK P tb) (ht : tk tb t = some (.pointer e)) (hi : tb e = some ti)
    (h : peqE op (opd rs [] env [] x) (opd rs [] env [] y) = some b) (hd : Nat.blt d N = true)
    (k : vcOps P tb N false all rest K [] ⟨(d, .v (.bool b)) :: env, F, rs, nx⟩) : vcOps P tb N false all (⟨some d, .binOp op t x y u, ty, pos, af, none⟩ :: rest) K [] ⟨env, F, rs, nx⟩ := by
  obtain ⟨dsc, hu, hf⟩ := und_of_tk htb ht
  simp only [TK.fits] at hf
  subst hf
  obtain ⟨info, hinfo, _⟩ := (htb e ti hi).info
  refine s_sem (.v (.bool b)) hd (fun c a w o hs ho => ⟨.bool b, w, ?_, hs, rfl⟩) k
  obtain ⟨h1, h2, h3, h4⟩ := run_peq (P := P) hu hinfo w
  have run : (binOp op t (a.eval x) (a.eval y)).run P w = .ok (.bool b) w := by
    unfold peqE at h
    split at h
    · rename_i hx hy
      have ex := opd_eval hs hx
      have ey := opd_eval hs hy
      simp only [EV.val, Option.some.injEq] at ex ey
      rw [← ex, ← ey]
      split at h <;> simp at h <;> subst h
      · exact h1 none
      · exact h2 none
    · rename_i i o hx hy
      have ex := opd_eval hs hx
      have ey := opd_eval hs hy
      simp only [EV.val, Option.some.injEq] at ey
      rw [← ey]
      simp only [EV.val] at ex
      split at ex
      · split at ex
        · simp only [Option.some.injEq] at ex
          rw [← ex]
          split at h <;> simp at h <;> subst h
          · exact h1 (some _)
          · exact h2 (some _)
        · cases ex
      · cases ex
    · rename_i i o j o' hx hy
      split at h
      · rename_i hij
        simp only [Bool.and_eq_true, Nat.beq_eq] at hij
        obtain ⟨rfl, rfl⟩ := hij
        have ex := opd_eval hs hx
        have ey := opd_eval hs hy
        rw [ex] at ey
        simp only [Option.some.injEq] at ey
        rw [← ey]
        simp only [EV.val] at ex
        split at ex
        · split at ex
          · simp only [Option.some.injEq] at ex
            rw [← ex]
            split at h <;> simp at h <;> subst h
            · exact h3 _
            · exact h4 _
          · cases ex
        · cases ex
      · cases h
    · cases h
  have isp : ∀ e : EV, (∃ p, e = .v (.pointer p)) ∨ (∃ i o, e = .loc i o) → ∀ v, e.val rs = some v → ∃ p, v = .pointer p := by
    rintro e (⟨p, rfl⟩ | ⟨i, o, rfl⟩) v hv
    · simp only [EV.val, Option.some.injEq] at hv
      exact ⟨p, hv.symm⟩
    · simp only [EV.val] at hv
      split at hv
      · split at hv
        · simp only [Option.some.injEq] at hv
          exact ⟨_, hv.symm⟩
        · cases hv
      · cases hv
  have hg : (eqGuard op t x y (a.eval x) (a.eval y)).run P w = .ok () w := by
    have : (∃ p, a.eval x = .pointer p) ∧ ∃ q, a.eval y = .pointer q := by
      unfold peqE at h
      split at h
      · rename_i hx hy
        exact ⟨isp _ (.inl ⟨_, rfl⟩) _ (opd_eval hs hx), isp _ (.inl ⟨_, rfl⟩) _ (opd_eval hs hy)⟩
      · rename_i i o hx hy
        exact ⟨isp _ (.inr ⟨_, _, rfl⟩) _ (opd_eval hs hx), isp _ (.inl ⟨_, rfl⟩) _ (opd_eval hs hy)⟩
      · rename_i i o j o' hx hy
        exact ⟨isp _ (.inr ⟨_, _, rfl⟩) _ (opd_eval hs hx), isp _ (.inr ⟨_, _, rfl⟩) _ (opd_eval hs hy)⟩
      · cases h
    obtain ⟨⟨p, e1⟩, q, e2⟩ := this
    rw [e1, e2]
    unfold eqGuard
    cases op <;> rfl
  simp only [execOp, ho, run_bind, hg, run, run_pure]
/-- A name of an owned block: where it lies. -/
theorem loc_block {c : Ctx} {a : Act} {w : World} (h : GSat c N [] st a w) {id o : Nat} {v : Value} (hv : (EV.loc id o).val st.rs = some v) : ∃ r b, lkR st.rs id = some r ∧ r.blk = some b ∧ v = .pointer (some ⟨b, o, none⟩) ∧ ∃ cur : Array Value, w.heap[b]? = some (.cells cur r.ty (0, 0)) ∧ cur.size = r.cap := by
  simp only [EV.val] at hv
  split at hv
  · rename_i r hr
    split at hv
    · rename_i b hb
      simp only [Option.some.injEq] at hv
      have ho := h.wok.own.own id r hr
      rw [hb] at ho
      obtain ⟨_, _, cur, h1, h2, _⟩ := ho
      exact ⟨r, b, hr, hb, hv.symm, cur, h1, h2⟩
    · cases hv
  · cases hv
theorem shape_of {w : World} {b : Nat} {cur : Array Value} {ty : TypeId} (h : w.heap[b]? = some (.cells cur ty (0, 0))) : w.shape? b = some (ty, cur.size) := by
  simp [World.shape?, h]
/-- A pointer to a block of the call's own, seen as an address. -/
theorem s_toUnsafe {d : Nat} {s t e : TypeId} {ti : TI} {x : Operand} {ty : TypeId} {pos : String} {af : Array Edge} {env : Env} {F : Hp} {rs : RL} {nx id : Nat} {r : Blk} (htb : TbOK P tb) (hs : tk tb s = some (.pointer e)) (ht : P.underlying t = some .unsafePointer) (hi : tb e = some ti) (hz : Nat.blt 0 ti.size = true)
    (hx : opd rs [] env [] x = some (.loc id 0)) (hr : lkR rs id = some r) (hc : Nat.blt 0 r.cap = true) (hd : Nat.blt d N = true)
    (k : vcOps P tb N false all rest K [] ⟨(d, .loc id 0) :: env, F, rs, nx⟩) : vcOps P tb N false all (⟨some d, .convert s t x, ty, pos, af, none⟩ :: rest) K [] ⟨env, F, rs, nx⟩ := by
  obtain ⟨dsc, hu, hf⟩ := und_of_tk htb hs
  simp only [TK.fits] at hf
  subst hf
  obtain ⟨info, hinfo, hsz, _⟩ := (htb e ti hi).info
  refine s_sem (.loc id 0) hd (fun c a w o hs ho => ?_) k
  have ex := opd_eval hs hx
  obtain ⟨r', b, h1, h2, h3, cur, h4, h5⟩ := loc_block hs ex
  simp only at h1 ex
  rw [hr, Option.some.injEq] at h1
  subst h1
  refine ⟨a.eval x, w, ?_, hs, ex⟩
  have hz' : 0 < ti.size := by simpa using hz
  have hc' : 0 < r.cap := by simpa using hc
  have := Lib.run_to_unsafe (P := P) w ⟨b, 0, none⟩ hu ht hinfo (by omega) (shape_of h4) (by simpa [h5] using hc')
  rw [← h3] at this
  simp only [execOp, ho, run_bind, this, run_pure]
/-- .. and back. -/
theorem s_fromUnsafe {d : Nat} {s t e : TypeId} {ti : TI} {x : Operand} {ty : TypeId} {pos : String} {af : Array Edge} {env : Env} {F : Hp} {rs : RL} {nx id : Nat} {r : Blk} (htb : TbOK P tb) (hs : P.underlying s = some .unsafePointer) (ht : tk tb t = some (.pointer e)) (hi : tb e = some ti)
    (hx : opd rs [] env [] x = some (.loc id 0)) (hr : lkR rs id = some r) (hl : liesAt P P.depth r.ty (r.cap / P.cellsOf r.ty) 0 e 1 = true) (hd : Nat.blt d N = true)
    (k : vcOps P tb N false all rest K [] ⟨(d, .loc id 0) :: env, F, rs, nx⟩) : vcOps P tb N false all (⟨some d, .convert s t x, ty, pos, af, none⟩ :: rest) K [] ⟨env, F, rs, nx⟩ := by
  obtain ⟨dsc, hu, hf⟩ := und_of_tk htb ht
  simp only [TK.fits] at hf
  subst hf
  obtain ⟨info, hinfo, _⟩ := (htb e ti hi).info
  refine s_sem (.loc id 0) hd (fun c a w o hs' ho => ?_) k
  have ex := opd_eval hs' hx
  obtain ⟨r', b, h1, h2, h3, cur, h4, h5⟩ := loc_block hs' ex
  simp only at h1 ex
  rw [hr, Option.some.injEq] at h1
  subst h1
  refine ⟨a.eval x, w, ?_, hs', ex⟩
  have := Lib.run_from_unsafe (P := P) w ⟨b, 0, none⟩ hs hu hinfo (shape_of h4) (by rw [h5]; exact hl)
  rw [← h3] at this
  simp only [execOp, ho, run_bind, this, run_pure]
/-- A call of a function without a text that hands its argument back. -/
theorem s_same {d : Nat} {f : Nat} {x : Operand} {ts : Array TypeId} {fn : Func} {ty : TypeId} {pos : String} {af : Array Edge} {e : EV} {env : Env} {F : Hp} {rs : RL} {nx : Nat} (hf : P.funcs[f]? = some fn) (hname : (fn.name == "runtime.NumGoroutine") = false)
    (hb : fn.body.isNone = true) (hn : Extern.findNext fn = none) (he : Extern.find fn = some Extern.AbiNoEscape.same) (hx : opd rs [] env [] x = some e) (hd : Nat.blt d N = true)
    (k : vcOps P tb N false all rest K [] ⟨(d, e) :: env, F, rs, nx⟩) : vcOps P tb N false all (⟨some d, .call ⟨.value (.func f), #[x], ts⟩, ty, pos, af, none⟩ :: rest) K [] ⟨env, F, rs, nx⟩ := by
  refine s_sem e hd (fun c a w o hs ho => ⟨a.eval x, w, ?_, hs, opd_eval hs hx⟩) k
  have h1 : a.eval (.func f) = .func (.func f) #[] #[] := rfl
  have h2 := run_callFunc_extern hf hname hb hn he #[a.eval x] w
  rw [Lib.run_noEscape] at h2
  simp only [Result.andThen] at h2
  simp [execOp, ho, resolve, h1, Deferred.ofValue, invoke, h2]
/-- A block that the state does not speak of may turn. -/
theorem off_sat {c : Ctx} {g : GEnv} {a : Act} {w w' : World} {b : Nat} (h : GSat c N g st a w) (hp : Pres [b] w w') (hF : st.F b = none) (hb : c.wE.heap.size ≤ b) (hrs : ∀ k r, lkR st.rs k = some r → r.blk ≠ some b) : GSat c N g st a w' := by
  refine { h with wok := ?_ }
  exact {
    le := h.wok.le.pres hp (fun x hx => by rw [List.mem_singleton] at hx; subst hx; exact hF)
    own := {
      own := fun id r hr => by
        have h1 := h.wok.own.own id r hr
        cases hk : r.blk with
        | none => rw [hk] at h1; exact h1
        | some b' =>
          rw [hk] at h1
          obtain ⟨g1, g2, cur, g3, g4⟩ := h1
          have hne : b' ≠ b := fun e => hrs id r hr (by rw [hk, e])
          exact ⟨g1, g2, cur, (hp.block b' (lt_of_some g3) (by simpa using hne)).trans g3, g4⟩
      apart := h.wok.own.apart }
    pres := h.wok.pres.trans' hp (fun y hy => by rw [List.mem_singleton] at hy; subst hy; exact .inr hb)
    new := h.wok.new
    fnew := h.wok.fnew }
theorem pres_freeze (w : World) (b n : Nat) : Pres [b] w (w.freeze ⟨b, 0, none⟩ n) := by
  unfold World.freeze
  split
  · exact Pres.refl _ _
  · refine ⟨rfl, rfl, rfl, by simp, fun k hk hx => ?_⟩
    have : b ≠ k := fun e => hx (by simp [e])
    simp [Array.getElem?_modify, this]
/-- unsafe.String of no byte. -/
theorem s_ustr0 {d : Nat} {x y : Operand} {t1 t2 : TypeId} {ty : TypeId} {pos : String} {af : Array Edge} {env : Env} {F : Hp} {rs : RL} {nx : Nat} (hx : opd rs [] env [] x = some (.v (.pointer none))) (hy : opd rs [] env [] y = some (.v (.int .i64 0))) (hd : Nat.blt d N = true)
    (k : vcOps P tb N false all rest K [] ⟨(d, .v (S [])) :: env, F, rs, nx⟩) : vcOps P tb N false all (⟨some d, .call ⟨.builtin .unsafeString, #[x, y], #[t1, t2]⟩, ty, pos, af, none⟩ :: rest) K [] ⟨env, F, rs, nx⟩ := by
  refine s_sem (.v (S [])) hd (fun c' a w o hs ho => ?_) k
  have ex := opd_eval hs hx
  have ey := opd_eval hs hy
  simp only [EV.val, Option.some.injEq] at ex ey
  refine ⟨S [], w, ?_, hs, rfl⟩
  have := Lib.run_unsafeString_none (P := P) w t1 t2 o.type none
  rw [ex, ey] at this
  simp [execOp, ho, resolve, invoke, builtin, this]
  rfl
/-- unsafe.String over the head of a row of bytes: the row is given away. -/
theorem s_ustr {d : Nat} {x y : Operand} {t1 t2 : TypeId} {ty : TypeId} {pos : String} {af : Array Edge} {env : Env} {F : Hp} {rs rs' : RL} {nx id m b cap : Nat} {cells : List EV} {tyb : TypeId} (l : List UInt8) (hp : P.underlying t1 = some (.pointer tyb)) (h1 : P.cellsOf tyb = 1) (hx : opd rs [] env [] x = some (.loc id 0)) (hr : lkR rs id = some ⟨some b, cells, tyb, cap⟩) (hy : opd rs [] env [] y = some (.v (.int .i64 (m : Nat)))) (hm : m = l.length) (hd : Nat.blt d N = true)
    (hrs : forceL (delR rs id) = some rs') (h0 : l ≠ []) (hl : l.length ≤ 9223372036854775807) (hcl : l.length ≤ cells.length) (hc : cells.take l.length = l.map fun b => .v (.int .u8 (b.toNat : Int)))
    (k : vcOps P tb N false all rest K [] ⟨(d, .v (S l)) :: env, F, rs', nx⟩) : vcOps P tb N false all (⟨some d, .call ⟨.builtin .unsafeString, #[x, y], #[t1, t2]⟩, ty, pos, af, none⟩ :: rest) K [] ⟨env, F, rs, nx⟩ := by
  rw [forceL_eq, Option.some.injEq] at hrs
  subst hrs hm
  refine s_sem (.v (S l)) hd (fun c' a w o hs ho => ?_) k
  have ex := opd_eval hs hx
  have ey := opd_eval hs hy
  simp only [EV.val, hr, Option.some.injEq] at ex ey
  have ho' := hs.wok.own.own id _ hr
  obtain ⟨g1, g2, cur, g3, g4, g5⟩ := ho'
  simp only at g1 g2 g4 g5
  refine ⟨S l, w.freeze ⟨b, 0, none⟩ l.length, ?_, off_sat (b := b) (sub_sat hs fun k r hk => ?_) (pres_freeze w b _) g1 (hs.wok.new id _ b hr rfl) (fun k r hk hb => ?_), rfl⟩
  · have := Lib.run_unsafeString_row (P := P) w t1 t2 o.type tyb hp h1 b cur.size (shape_of g3) l h0 (by omega) hl (fun j u hj => by
      have hlt : j < l.length := (List.getElem?_eq_some_iff.1 hj).1
      have e2 : cells[j]? = some (.v (.int .u8 (u.toNat : Int))) := by
        have := congrArg (fun q => q[j]?) hc
        simp only [List.getElem?_take, hlt, if_true, List.getElem?_map, hj, Option.map_some] at this
        exact this
      have e3 := g5 j _ _ e2 rfl
      rw [addr_add]
      simp only [World.cell?, g3, Nat.zero_add, Option.isSome_none, Bool.false_eq_true, if_false]
      exact e3)
    rw [ex, ey] at this
    simp [execOp, ho, resolve, invoke, builtin, this]
    rfl
  · rw [lkR_delR] at hk
    split at hk
    · cases hk
    · exact hk
  · simp only at hk
    rw [lkR_delR] at hk
    split at hk
    · cases hk
    · rename_i hne
      exact hne (hs.wok.own.apart _ _ _ _ _ hk hr hb rfl)
end
end Go.TR
