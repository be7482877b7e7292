/-
A small program logic of our own for the model: a slice compared with nil; append(nil, make([]T, n)...).
-/
import Derived.Test.YthkkgphjjmhglaaGreatDoorFwB
import Derived.Lib.AppendZeros
/-!
A small program logic of our own for the model: a slice compared with nil; append(nil, make([]T, n)...).
-/
set_option linter.unusedVariables false
set_option linter.unusedSimpArgs false
namespace Go.TR
open Go
section
variable {P : Program} {tb : Tb} {N : Nat} {all rest : List Oper} {K : GEnv → St → Prop} {st : St}
def snilE (rs : RL) (op : BinOp) : Option EV → Option EV → Option Bool
  | some (.v (.slice p _ _)), some (.v (.slice none 0 0)) => match op with
    | .eql => some p.isNone
    | .neq => some (!p.isNone)
    | _ => none
  | some (.row id _ _ _), some (.v (.slice none 0 0)) => match lkR rs id with
    | some r => (match op with
      | .eql => some r.blk.isNone
      | .neq => some (!r.blk.isNone)
      | _ => none)
    | none => none
  | _, _ => none
theorem run_snil {t e : TypeId} (hp : P.underlying t = some (.slice e)) (w : World) (p : Option Addr) (l c : Nat) :
    (binOp .eql t (.slice p l c) (.slice none 0 0)).run P w = .ok (.bool p.isNone) w ∧ (binOp .neq t (.slice p l c) (.slice none 0 0)).run P w = .ok (.bool (!p.isNone)) w := by
  have h : ∀ (d : Nat) (a : Option Addr) (l c : Nat), (Op.equalIn (d + 1) t (.slice a l c) (.slice none 0 0)).run P w = .ok a.isNone w := fun d a l c => by
    cases a <;> simp [Op.equalIn, run_underlying hp]
  refine ⟨?_, ?_⟩ <;> simp only [binOp] <;> simp [Op.equal, Op.maxDepth, h 9999]
theorem guard_slice {op : BinOp} {t : TypeId} {x y : Operand} (w : World) (p q : Option Addr) (l c l' c' : Nat) : (eqGuard op t x y (.slice p l c) (.slice q l' c')).run P w = .ok () w := by
  unfold eqGuard
  cases op <;> simp
/-- A slice compared with nil. -/
theorem s_snil {d : Nat} {op : BinOp} {t u e : TypeId} {x y : Operand} {ty : TypeId} {pos : String} {af : Array Edge} {env : Env} {F : Hp} {rs : RL} {nx : Nat} {b : Bool} (htb : TbOK P tb) (ht : tk tb t = some (.slice e))
    (h : snilE rs op (opd rs [] env [] x) (opd rs [] env [] y) = some b) (hd : Nat.blt d N = true)
    (k : vcOps P tb N false all rest K [] ⟨(d, .v (.bool b)) :: env, F, rs, nx⟩) : vcOps P tb N false all (⟨some d, .binOp op t x y u, ty, pos, af, none⟩ :: rest) K [] ⟨env, F, rs, nx⟩ := by
  have hu := und_slice htb ht
  refine s_sem (.v (.bool b)) hd (fun c a w o hs ho => ⟨.bool b, w, ?_, hs, rfl⟩) k
  have run : (eqGuard op t x y (a.eval x) (a.eval y)).run P w = .ok () w ∧ (binOp op t (a.eval x) (a.eval y)).run P w = .ok (.bool b) w := by
    unfold snilE at h
    split at h
    · rename_i p l c' hx hy
      have ex := opd_eval hs hx
      have ey := opd_eval hs hy
      simp only [EV.val, Option.some.injEq] at ex ey
      rw [← ex, ← ey]
      obtain ⟨h1, h2⟩ := run_snil hu w p l c'
      have hg := guard_slice (P := P) (op := op) (t := t) (x := x) (y := y) w p none l c' 0 0
      split at h <;> simp at h <;> subst h <;> exact ⟨hg, by first | exact h1 | simpa using h2⟩
    · rename_i id o n c' hx hy
      have ex := opd_eval hs hx
      have ey := opd_eval hs hy
      simp only [EV.val, Option.some.injEq] at ey
      rw [← ey]
      simp only [EV.val] at ex
      cases hr : lkR rs id with
      | none => rw [hr] at h; cases h
      | some r =>
        rw [hr] at h ex
        simp only [Option.some.injEq] at ex
        rw [← ex]
        obtain ⟨h1, h2⟩ := run_snil hu w (r.blk.map fun b => ⟨b, o, none⟩) n c'
        have hg := guard_slice (P := P) (op := op) (t := t) (x := x) (y := y) w (r.blk.map fun b => ⟨b, o, none⟩) none n c' 0 0
        simp only [Option.isNone_map] at h1 h2
        simp only at h
        split at h <;> simp at h <;> subst h <;> exact ⟨hg, by first | exact h1 | simpa using h2⟩
    · cases h
  simp [execOp, ho, run.1, run.2]
end
/-- What is handed over need not be told of. -/
theorem CallOK.drop {P : Program} {F : Hp} {f : FuncId} {args : List Value} {Q : Value → Hp → Prop} (h : CallOK P F f args fun x F' _ => Q x F') : CallF P F f args Q := fun w hw => by
  refine (h w hw).mono fun e w' hh => ?_
  obtain ⟨x, F', new, h1, h2, h3, h4, h5, h6, h7, h8⟩ := hh
  exact ⟨x, F', [], h1, h2, h3, h4, h5, ⟨fun id r hr => by simp [lkR] at hr, fun i j r s b hi => by simp [lkR] at hi⟩, fun id r b hr => by simp [lkR] at hr, rfl, h8⟩
/-- A row that comes back, frozen. -/
theorem CallOK.frz {P : Program} {F : Hp} {f : FuncId} {args : List Value} {e : TypeId} {size n : Nat} {cs : List Value} (hn : n = 0 → cs = []) (h : CallOK P F f args fun x _ new => RowBack e size cs n x new) : CallF P F f args fun x F' => ∃ p c, x = .slice p n c ∧ n ≤ c ∧ Frow F' p cs := fun w hw => by
  refine (h w hw).mono fun ex w' hh => ?_
  obtain ⟨x, F', new, h1, h2, h3, h4, h5, h6, h7, h8⟩ := hh
  have nil : Owned F' [] w' := ⟨fun id r hr => by simp [lkR] at hr, fun i j r s b hi => by simp [lkR] at hi⟩
  rcases h8 with ⟨h9, rfl, p, rfl⟩ | ⟨h9, b, c, h10, rfl, rfl⟩
  · subst h9
    exact ⟨_, F', [], h1, h2, h3, h4, h5, nil, fun id r b hr => by simp [lkR] at hr, rfl, p, 0, rfl, Nat.le_refl _, by rw [hn rfl]; intro j u hj; simp at hj⟩
  · have hown := h6.own 0 _ (by rw [lkR_cons, if_pos rfl])
    simp only at hown
    obtain ⟨g1, g2, cur, g3, g4, g5⟩ := hown
    have hbn : w.heap.size ≤ b := h7 0 _ b (by rw [lkR_cons, if_pos rfl]) (.inl rfl)
    refine ⟨_, fun k => if k = b then some (.cells cur e (0, 0)) else F' k, [], h1, fun k o hk => ?_, fun k o hk => ?_, h4, fun k hk => ?_, ⟨fun id r hr => by simp [lkR] at hr, fun i j r s b hi => by simp [lkR] at hi⟩, fun id r b hr => by simp [lkR] at hr, rfl, _, c, rfl, h10, fun j u hj => ?_⟩
    · have := h2 k o hk
      simp only
      rw [if_neg (fun hkb => by rw [hkb, g1] at this; cases this)]
      exact this
    · simp only at hk
      split at hk
      · rename_i hkb
        subst hkb
        rw [← hk]; exact g3
      · exact h3 k o hk
    · simp only at hk
      split at hk
      · rename_i hkb
        subst hkb
        exact .inr hbn
      · exact h5 k hk
    · have hc := g5 j (.v u) u (by rw [List.getElem?_map, hj]; rfl) rfl
      cases j with
      | zero => simpa [Pcell, padd, Fcell, Addr.add] using hc
      | succ j => simpa [Pcell, padd, Fcell, Addr.add] using hc
section
variable {P : Program} {tb : Tb} {N : Nat} {KK : Exit → St → Prop} {st : St}
def firstR : Code → Bool
  | .region _ _ _ => true
  | .seq x _ => firstR x
  | .block _ x => firstR x
  | _ => false
theorem s_vsG : ∀ {c : Code} {KK : Exit → St → Prop} {st : St}, firstR c = true → (VS N [] st fun st => vc P tb N c KK st) → vc P tb N c KK st
  | .region _ _ _, _, _, _, hv => s_vs hv
  | .seq x y, KK, st, h, hv => by
    show vc P tb N x (seqK (vc P tb N y KK) KK) st
    exact s_vsG (c := x) h hv
  | .block id x, KK, st, h, hv => by
    show vc P tb N x (blockK id KK) st
    exact s_vsG (c := x) h hv
  | .skip, _, _, h, _ => by cases h
  | .ret, _, _, h, _ => by cases h
  | .exit _, _, _, h, _ => by cases h
  | .cond _ _ _, _, _, h, _ => by cases h
  | .loop _, _, _, h, _ => by cases h
  | .goto _, _, _, h, _ => by cases h
/-- Ways that meet again: what is told of the state where they do. -/
theorem s_join {x c : Code} {β : Type} (JP : β → Prop) (J : β → St) (hc : firstR c = true) (hJ : ∀ j, JP j → vc P tb N c KK (J j))
    (hx : ∀ KK2 : Exit → St → Prop, (∀ st, (VS N [] st fun st' => ∃ j, JP j ∧ st' = J j) → KK2 .normal st) → (∀ st, KK .ret st → KK2 .ret st) → (∀ i st, KK (.exit i) st → KK2 (.exit i) st) → vc P tb N x KK2 st) : vc P tb N x (seqK (vc P tb N c KK) KK) st :=
  hx _ (fun st h => s_vsG hc (fun c' a w hs => by
    obtain ⟨st', h1, j, h2, rfl⟩ := h c' a w hs
    exact ⟨_, h1, hJ j h2⟩)) (fun _ h => h) (fun _ _ h => h)
end
end Go.TR
/-!
A small program logic of our own for the model: a call walked in its place by a contract; clear.
-/
set_option linter.unusedVariables false
set_option linter.unusedSimpArgs false
namespace Go.TR
open Go
theorem callin_vc {P : Program} {tb : Tb} (htb : TbOK P tb) (hm : P.follows .mixedOrders = true) {f : FuncId} {fn : Func} (hf : P.funcs[f]? = some fn) {code : Code} (hb : fn.body = some code) {N : Nat} (hn : fn.ntmps = N) {rv : List ResultVar} (hr : fn.results.toList = rv) {args : List EV} {env : Env} (he : paramE 0 args = env)
    (hN : Nat.ble args.length N = true) {F : Hp} {rs : RL} {nx : Nat} {Q : EV → Hp → RL → Nat → Prop} (h : vc P tb N code (retI N tb rv Q) ⟨env, F, rs, nx⟩) : CallIn P F rs nx f args Q := by
  subst hn hr he
  exact callin_of_vc htb hm hf hb hN h
section
variable {P : Program} {tb : Tb} {N : Nat} {all rest : List Oper} {K : GEnv → St → Prop}
theorem s_in {d : Nat} {f : Operand} {args : Array Operand} {ts : Array TypeId} {n : FuncId} {first captured : Array Value} {es qs : List EV} {ty : TypeId} {pos : String} {af : Array Edge} {env : Env} {F : Hp} {rs : RL} {nx : Nat} {Q : EV → Hp → RL → Nat → Prop}
    (hf : opd rs [] env [] f = some (.v (.func (.func n) first captured))) (he : evs (opd rs [] env []) args.toList = some es) (ha : first.toList.map EV.v ++ es ++ captured.toList.map EV.v = qs) (hb : bodied P n) (hd : Nat.blt d N = true) (hc : CallIn P F rs nx n qs Q)
    (k : ∀ e F' rs' nx', True → nx ≤ nx' → Q e F' rs' nx' → vcOps P tb N false all rest K [] ⟨(d, e) :: env, F', rs', nx'⟩) :
    vcOps P tb N false all (⟨some d, .call ⟨.value f, args, ts⟩, ty, pos, af, none⟩ :: rest) K [] ⟨env, F, rs, nx⟩ := by
  have hd' : d < N := by simpa using hd
  subst ha
  refine .inr (.inl ⟨rfl, ?_⟩)
  simp only [memV, hf, he, inGo]
  refine ⟨hb, Q, hc, fun e F' rs' nx' h1 h2 h => ?_⟩
  simp only [putE, putV]
  exact ⟨hd', k e F' rs' nx' h1 h2 h⟩
theorem zero_one {z : Array Value} {n : Nat} (h0 : 0 < z.size) (hz : z.toList.all (·.oneCell') = true) : ∀ v ∈ (Builtin.zeroCells z n).toList, v.oneCell' = true := fun v hv => by
  simp only [Builtin.zeroCells, Array.toList_map, List.mem_map] at hv
  obtain ⟨i, _, rfl⟩ := hv
  have hlt : i % z.size < z.size := Nat.mod_lt _ h0
  have hm : z[i % z.size]! ∈ z.toList := by
    rw [getElem!_pos z (i % z.size) hlt]
    simp
  exact List.all_eq_true.1 hz _ hm
theorem run_clear_row {t e ty : TypeId} {i : TypeInfo} {z : Value} (ht : P.underlying t = some (.slice e)) (hi : P.info? e = some i) (hz : i.zero = some z) (h0 : 0 < z.cells.size) (h1 : z.cells.toList.all (·.oneCell') = true) (w : World) (b o n c : Nat) {cur : Array Value} {tc : TypeId} (hcur : w.heap[b]? = some (.cells cur tc (0, 0))) (hfit : o + n * z.cells.size ≤ cur.size) :
    (Builtin.clear_ #[t] ty #[.slice (some ⟨b, o, none⟩) n c]).run P w = .ok (.tuple #[]) (w.setRow b (cur.toList.take o ++ (Builtin.zeroCells z.cells n).toList ++ cur.toList.drop (o + (Builtin.zeroCells z.cells n).toList.length)).toArray) := by
  have hl : (Builtin.zeroCells z.cells n).toList.length = n * z.cells.size := by rw [Array.length_toList, size_zeroCells]
  cases n with
  | zero =>
    have hnil : (Builtin.zeroCells z.cells 0).toList = [] := List.eq_nil_of_length_eq_zero (by rw [hl, Nat.zero_mul])
    rw [hnil]
    simp only [List.append_nil, List.length_nil, Nat.add_zero, List.take_append_drop, Array.toArray_toList]
    rw [setRow_self w b cur tc (0, 0) hcur]
    simp [Builtin.clear_, run_underlying ht]
  | succ m =>
    have hst := run_storeCells_at (P := P) b o tc (Builtin.zeroCells z.cells (m + 1)).toList 0 cur w hcur (by rw [hl]; omega) (zero_one h0 h1)
    simp only [Nat.add_zero] at hst
    simp [Builtin.clear_, run_underlying ht, zeroValue, typeInfo, hi, hz, hst]
/-- clear of a row of the call's own. -/
theorem s_clear {x : Operand} {t e : TypeId} {ty : TypeId} {pos : String} {af : Array Edge} {env : Env} {F : Hp} {rs : RL} {nx id o n c b cap : Nat} {cells : List EV} {tyb : TypeId} {ti : TI} (htb : TbOK P tb) (ht : tk tb t = some (.slice e)) (hi : tb e = some ti) (h0 : (Nat.blt 0 ti.zero.length && ti.zero.all (·.oneCell')) = true)
    (hx : opd rs [] env [] x = some (.row id o n c)) (hr : lkR rs id = some ⟨some b, cells, tyb, cap⟩) (rs' : List Value → RL) (hrs : ∀ vs, forceL (setR rs id ⟨some b, cells.take o ++ vs.map EV.v ++ cells.drop (o + n * ti.zero.length), tyb, cap⟩) = some (rs' vs)) (hfit : o + n * ti.zero.length ≤ cells.length)
    (k : ∀ vs : List Value, vs.length = n * ti.zero.length → vcOps P tb N false all rest K [] ⟨env, F, rs' vs, nx⟩) :
    vcOps P tb N false all (⟨none, .call ⟨.builtin .clear, #[x], #[t]⟩, ty, pos, af, none⟩ :: rest) K [] ⟨env, F, rs, nx⟩ := by
  simp only [Bool.and_eq_true, Nat.blt_eq] at h0
  obtain ⟨hs0, h1⟩ := h0
  obtain ⟨i, hinfo, _, _, z, hz, hzl⟩ := (htb e ti hi).info
  have hut := und_slice htb ht
  have hzs : z.cells.size = ti.zero.length := by rw [← hzl]; simp
  refine .inr (.inr ⟨rfl, VS.id (.inr (.inr ⟨{ vs : List Value // vs.length = n * ti.zero.length }, fun _ => .v (.tuple #[]), fun q => ⟨env, F, rs' q.1, nx⟩, fun c' a w op hs ho => ?_, fun q => ?_⟩))⟩)
  · have ex := opd_eval hs hx
    simp only [EV.val, hr] at ex
    simp only [Option.map_some, Option.some.injEq] at ex
    have hown := hs.wok.own.own id _ hr
    simp only at hown
    obtain ⟨g1, g2, cur, g3, g4, g5⟩ := hown
    have hrun := run_clear_row (P := P) (ty := op.type) hut hinfo hz (by rw [hzs]; exact hs0) (by rw [hzl]; exact h1) w b o n c g3 (by rw [hzs, g4]; exact Nat.le_trans hfit g2)
    have hvl : (Builtin.zeroCells z.cells n).toList.length = n * ti.zero.length := by rw [Array.length_toList, size_zeroCells, hzs]
    rw [ex] at hrun
    refine ⟨⟨(Builtin.zeroCells z.cells n).toList, hvl⟩, .tuple #[], w.setRow b (cur.toList.take o ++ (Builtin.zeroCells z.cells n).toList ++ cur.toList.drop (o + (Builtin.zeroCells z.cells n).toList.length)).toArray, ?_, ?_, rfl⟩
    · simp only [execOp, ho, resolve, invoke, builtin]
      simp [hrun]
    · have := store_sat hs hr rfl (es := (Builtin.zeroCells z.cells n).toList.map EV.v) (vs := (Builtin.zeroCells z.cells n).toList) (off := o) (by simp) (by rw [List.length_map, hvl]; exact hfit) (fun e he => by
        obtain ⟨v, _, rfl⟩ := List.mem_map.1 he
        trivial) (fun j e x hj hx => by
        rw [List.getElem?_map, Option.map_eq_some_iff] at hj
        obtain ⟨v, h2, rfl⟩ := hj
        simp only [EV.val, Option.some.injEq] at hx
        rw [h2, hx]) g3
      have hq := hrs (Builtin.zeroCells z.cells n).toList
      rw [forceL_eq, Option.some.injEq] at hq
      rw [List.length_map, hvl] at this
      show GSat c' N [] ⟨env, F, rs' (Builtin.zeroCells z.cells n).toList, nx⟩ a _
      rw [← hq]
      have e1 : (cur.toList.drop (o + (Builtin.zeroCells z.cells n).toList.length)) = cur.toList.drop (o + n * ti.zero.length) := by rw [hvl]
      rw [e1]
      simpa using this
  · exact k q.1 q.2
end
end Go.TR
