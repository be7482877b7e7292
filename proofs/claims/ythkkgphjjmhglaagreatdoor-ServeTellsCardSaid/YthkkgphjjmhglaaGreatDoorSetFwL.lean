/-
A small program logic of our own for the model: a call walked in its place by a contract; clear.
-/
import Derived.Test.YthkkgphjjmhglaaGreatDoorFwC
import Derived.Lib.AppendZerosOnto
import Derived.Lib.Overlaps
import Derived.Laws.CopyRow
/-!
A small program logic of our own for the model: a call walked in its place by a contract; clear.
-/
set_option linter.unusedVariables false
set_option linter.unusedSimpArgs false
namespace Go.TR
open Go
theorem callin_vc {P : Program} {tb : Tb} (htb : TbOK P tb) (hm : P.follows .mixedOrders = true) {f : FuncId} {fn : Func} (hf : P.funcs[f]? = some fn) {code : Code} (hb : fn.body = some code) {N : Nat} (hn : fn.ntmps = N) {rv : List ResultVar} (hr : fn.results.toList = rv) {args : List EV} {env : Env} (he : paramE 0 args = env)
    (hN : Nat.ble args.length N = true) {F : Hp} {rs : RL} {nx : Nat} {Q : EV → Hp → RL → Nat → Prop} (h : vc P tb N code (retI N tb rv Q) ⟨env, F, rs, nx⟩) : CallIn P F rs nx f args Q := by
  subst hn hr he
  exact callin_of_vc htb hm hf hb hN h
section
variable {P : Program} {tb : Tb} {N : Nat} {all rest : List Oper} {K : GEnv → St → Prop}
theorem s_in {d : Nat} {f : Operand} {args : Array Operand} {ts : Array TypeId} {n : FuncId} {first captured : Array Value} {es qs : List EV} {ty : TypeId} {pos : String} {af : Array Edge} {env : Env} {F : Hp} {rs : RL} {nx : Nat} {Q : EV → Hp → RL → Nat → Prop}
    (hf : opd rs [] env [] f = some (.v (.func (.func n) first captured))) (he : evs (opd rs [] env []) args.toList = some es) (ha : first.toList.map EV.v ++ es ++ captured.toList.map EV.v = qs) (hb : bodied P n) (hd : Nat.blt d N = true) (hc : CallIn P F rs nx n qs Q)
    (k : ∀ e F' rs' nx', True → nx ≤ nx' → Q e F' rs' nx' → vcOps P tb N false all rest K [] ⟨(d, e) :: env, F', rs', nx'⟩) :
    vcOps P tb N false all (⟨some d, .call ⟨.value f, args, ts⟩, ty, pos, af, none⟩ :: rest) K [] ⟨env, F, rs, nx⟩ := by
  have hd' : d < N := by simpa using hd
  subst ha
  refine .inr (.inl ⟨rfl, ?_⟩)
  simp only [memV, hf, he, inGo]
  refine ⟨hb, Q, hc, fun e F' rs' nx' h1 h2 h => ?_⟩
  simp only [putE, putV]
  exact ⟨hd', k e F' rs' nx' h1 h2 h⟩
theorem zero_one {z : Array Value} {n : Nat} (h0 : 0 < z.size) (hz : z.toList.all (·.oneCell') = true) : ∀ v ∈ (Builtin.zeroCells z n).toList, v.oneCell' = true := fun v hv => by
  simp only [Builtin.zeroCells, Array.toList_map, List.mem_map] at hv
  obtain ⟨i, _, rfl⟩ := hv
  have hlt : i % z.size < z.size := Nat.mod_lt _ h0
  have hm : z[i % z.size]! ∈ z.toList := by
    rw [getElem!_pos z (i % z.size) hlt]
    simp
  exact List.all_eq_true.1 hz _ hm
theorem run_clear_row {t e ty : TypeId} {i : TypeInfo} {z : Value} (ht : P.underlying t = some (.slice e)) (hi : P.info? e = some i) (hz : i.zero = some z) (h0 : 0 < z.cells.size) (h1 : z.cells.toList.all (·.oneCell') = true) (w : World) (b o n c : Nat) {cur : Array Value} {tc : TypeId} (hcur : w.heap[b]? = some (.cells cur tc (0, 0))) (hfit : o + n * z.cells.size ≤ cur.size) :
    (Builtin.clear_ #[t] ty #[.slice (some ⟨b, o, none⟩) n c]).run P w = .ok (.tuple #[]) (w.setRow b (cur.toList.take o ++ (Builtin.zeroCells z.cells n).toList ++ cur.toList.drop (o + (Builtin.zeroCells z.cells n).toList.length)).toArray) := by
  have hl : (Builtin.zeroCells z.cells n).toList.length = n * z.cells.size := by rw [Array.length_toList, size_zeroCells]
  cases n with
  | zero =>
    have hnil : (Builtin.zeroCells z.cells 0).toList = [] := List.eq_nil_of_length_eq_zero (by rw [hl, Nat.zero_mul])
    rw [hnil]
    simp only [List.append_nil, List.length_nil, Nat.add_zero, List.take_append_drop, Array.toArray_toList]
    rw [setRow_self w b cur tc (0, 0) hcur]
    simp [Builtin.clear_, run_underlying ht]
  | succ m =>
    have hst := run_storeCells_at (P := P) b o tc (Builtin.zeroCells z.cells (m + 1)).toList 0 cur w hcur (by rw [hl]; omega) (zero_one h0 h1)
    simp only [Nat.add_zero] at hst
    simp [Builtin.clear_, run_underlying ht, zeroValue, typeInfo, hi, hz, hst]
/-- clear of a row of the call's own. -/
theorem s_clear {x : Operand} {t e : TypeId} {ty : TypeId} {pos : String} {af : Array Edge} {env : Env} {F : Hp} {rs : RL} {nx id o n c b cap : Nat} {cells : List EV} {tyb : TypeId} {ti : TI} (htb : TbOK P tb) (ht : tk tb t = some (.slice e)) (hi : tb e = some ti) (h0 : (Nat.blt 0 ti.zero.length && ti.zero.all (·.oneCell')) = true)
    (hx : opd rs [] env [] x = some (.row id o n c)) (hr : lkR rs id = some ⟨some b, cells, tyb, cap⟩) (rs' : List Value → RL) (hrs : ∀ vs, forceL (setR rs id ⟨some b, cells.take o ++ vs.map EV.v ++ cells.drop (o + n * ti.zero.length), tyb, cap⟩) = some (rs' vs)) (hfit : o + n * ti.zero.length ≤ cells.length)
    (k : ∀ vs : List Value, vs.length = n * ti.zero.length → vcOps P tb N false all rest K [] ⟨env, F, rs' vs, nx⟩) :
    vcOps P tb N false all (⟨none, .call ⟨.builtin .clear, #[x], #[t]⟩, ty, pos, af, none⟩ :: rest) K [] ⟨env, F, rs, nx⟩ := by
  simp only [Bool.and_eq_true, Nat.blt_eq] at h0
  obtain ⟨hs0, h1⟩ := h0
  obtain ⟨i, hinfo, _, _, z, hz, hzl⟩ := (htb e ti hi).info
  have hut := und_slice htb ht
  have hzs : z.cells.size = ti.zero.length := by rw [← hzl]; simp
  refine .inr (.inr ⟨rfl, VS.id (.inr (.inr ⟨{ vs : List Value // vs.length = n * ti.zero.length }, fun _ => .v (.tuple #[]), fun q => ⟨env, F, rs' q.1, nx⟩, fun c' a w op hs ho => ?_, fun q => ?_⟩))⟩)
  · have ex := opd_eval hs hx
    simp only [EV.val, hr] at ex
    simp only [Option.map_some, Option.some.injEq] at ex
    have hown := hs.wok.own.own id _ hr
    simp only at hown
    obtain ⟨g1, g2, cur, g3, g4, g5⟩ := hown
    have hrun := run_clear_row (P := P) (ty := op.type) hut hinfo hz (by rw [hzs]; exact hs0) (by rw [hzl]; exact h1) w b o n c g3 (by rw [hzs, g4]; exact Nat.le_trans hfit g2)
    have hvl : (Builtin.zeroCells z.cells n).toList.length = n * ti.zero.length := by rw [Array.length_toList, size_zeroCells, hzs]
    rw [ex] at hrun
    refine ⟨⟨(Builtin.zeroCells z.cells n).toList, hvl⟩, .tuple #[], w.setRow b (cur.toList.take o ++ (Builtin.zeroCells z.cells n).toList ++ cur.toList.drop (o + (Builtin.zeroCells z.cells n).toList.length)).toArray, ?_, ?_, rfl⟩
    · simp only [execOp, ho, resolve, invoke, builtin]
      simp [hrun]
    · have := store_sat hs hr rfl (es := (Builtin.zeroCells z.cells n).toList.map EV.v) (vs := (Builtin.zeroCells z.cells n).toList) (off := o) (by simp) (by rw [List.length_map, hvl]; exact hfit) (fun e he => by
        obtain ⟨v, _, rfl⟩ := List.mem_map.1 he
        trivial) (fun j e x hj hx => by
        rw [List.getElem?_map, Option.map_eq_some_iff] at hj
        obtain ⟨v, h2, rfl⟩ := hj
        simp only [EV.val, Option.some.injEq] at hx
        rw [h2, hx]) g3
      have hq := hrs (Builtin.zeroCells z.cells n).toList
      rw [forceL_eq, Option.some.injEq] at hq
      rw [List.length_map, hvl] at this
      show GSat c' N [] ⟨env, F, rs' (Builtin.zeroCells z.cells n).toList, nx⟩ a _
      rw [← hq]
      have e1 : (cur.toList.drop (o + (Builtin.zeroCells z.cells n).toList.length)) = cur.toList.drop (o + n * ti.zero.length) := by rw [hvl]
      rw [e1]
      simpa using this
  · exact k q.1 q.2
end
end Go.TR
/-!
A small program logic of our own: copy, append onto a row of the call's own, append of noughts, overlaps.
-/
namespace Go.TR
set_option linter.unusedVariables false
set_option linter.unusedSimpArgs false
open Go.Lib
section
variable {P : Program} {tb : Tb} {N : Nat} {all rest : List Oper} {K : GEnv → St → Prop}
/-- What lies behind the cells that are known. -/
theorem more_sat {c : Ctx} {g : GEnv} {env : Env} {F : Hp} {rs : RL} {nx : Nat} {a : Act} {w : World} (h : GSat c N g ⟨env, F, rs, nx⟩ a w) {id b : Nat} {r : Blk} (hr : lkR rs id = some r) (hb : r.blk = some b) {k : Nat} (hk : r.cells.length + k ≤ r.cap) :
    ∃ vs : List Value, vs.length = k ∧ GSat c N g ⟨env, F, setR rs id ⟨r.blk, r.cells ++ vs.map .v, r.ty, r.cap⟩, nx⟩ a w := by
  have hown := h.wok.own.own id r hr
  rw [hb] at hown
  obtain ⟨o1, o2, cur, o3, o4, o5⟩ := hown
  refine ⟨(cur.toList.drop r.cells.length).take k, by rw [List.length_take, List.length_drop, Array.length_toList]; omega, ?_⟩
  generalize hvs : (cur.toList.drop r.cells.length).take k = vs
  have hvl : vs.length = k := by rw [← hvs, List.length_take, List.length_drop, Array.length_toList]; omega
  have hval := fun e => val_setR (r' := ⟨r.blk, r.cells ++ vs.map .v, r.ty, r.cap⟩) hr rfl e
  exact {
    size := h.size
    defers := h.defers
    wok := {
      le := h.wok.le
      own := {
        own := fun k' s hs => by
          rw [lkR_setR] at hs
          split at hs
          · rw [hr] at hs
            simp only [Option.map_some, Option.some.injEq] at hs
            subst hs
            split
            · rename_i hn
              exact absurd (hb.symm.trans hn) (by simp)
            rename_i b0 hb0
            obtain rfl : b = b0 := by
              have := hb.symm.trans hb0
              simpa using this
            refine ⟨o1, by simp only [List.length_append, List.length_map]; omega, cur, o3, o4, fun j ev x hj hx => ?_⟩
            have hx' : ev.val rs = some x := by rw [← hval ev]; exact hx
            simp only at hj
            rw [List.getElem?_append] at hj
            split at hj
            · exact o5 j ev x hj hx'
            · rename_i hlo
              rw [List.getElem?_map, Option.map_eq_some_iff] at hj
              obtain ⟨v, hv, rfl⟩ := hj
              simp only [EV.val, Option.some.injEq] at hx
              subst hx
              rw [← hvs, List.getElem?_take] at hv
              split at hv
              · rw [List.getElem?_drop] at hv
                have e3 : r.cells.length + (j - r.cells.length) = j := by omega
                rw [e3] at hv
                simpa using hv
              · cases hv
          · have h1 := h.wok.own.own k' s hs
            cases hsb : s.blk with
            | none => rw [hsb] at h1; exact h1
            | some b' =>
              rw [hsb] at h1
              obtain ⟨g1, g2, cur', g3, g4, g5⟩ := h1
              exact ⟨g1, g2, cur', g3, g4, fun j ev x hj hx => g5 j ev x hj (by rw [← hval ev]; exact hx)⟩
        apart := fun i j s t b' hi hj hs ht => by
          rw [lkR_setR] at hi hj
          have conv : ∀ {k : Nat} {s : Blk}, (if k = id then (lkR rs id).map fun _ => (⟨r.blk, r.cells ++ vs.map .v, r.ty, r.cap⟩ : Blk) else lkR rs k) = some s → s.blk = some b' → ∃ s', lkR rs k = some s' ∧ s'.blk = some b' := by
            intro k s hk hsb
            split at hk
            · rename_i hkid
              rw [hr] at hk
              simp only [Option.map_some, Option.some.injEq] at hk
              subst hk
              subst hkid
              exact ⟨r, hr, hsb⟩
            · exact ⟨s, hk, hsb⟩
          obtain ⟨s', hs1, hs2⟩ := conv hi hs
          obtain ⟨t', ht1, ht2⟩ := conv hj ht
          exact h.wok.own.apart i j s' t' b' hs1 ht1 hs2 ht2 }
      pres := h.wok.pres
      new := fun k s b' hs hsb => by
        rw [lkR_setR] at hs
        split at hs
        · rw [hr] at hs
          simp only [Option.map_some, Option.some.injEq] at hs
          subst hs
          exact h.wok.new id r b' hr (Blk.at_some hb hsb rfl)
        · exact h.wok.new k s b' hs hsb
      fnew := h.wok.fnew
      sz := h.wok.sz
      tp := h.wok.tp }
    hist := {
      sub := h.hist.sub
      nxle := h.hist.nxle
      succ := fun k s hk hs => by
        rw [lkR_setR] at hs
        split at hs
        · rename_i hkid
          subst hkid
          rw [hr] at hs
          simp only [Option.map_some, Option.some.injEq] at hs
          subst hs
          exact h.hist.succ k r hk hr
        · exact h.hist.succ k s hk hs }
    rids := fun k s hs => by
      simp only [lkR_setR] at hs
      split at hs
      · rename_i hkid
        rw [hr] at hs
        simp only [Option.map_some, Option.some.injEq] at hs
        subst hs
        obtain ⟨q1, q2⟩ := h.rids id r hr
        refine ⟨by rw [hkid]; exact q1, fun e he => ?_⟩
        rcases List.mem_append.1 he with he | he
        · exact q2 e he
        · obtain ⟨v, _, rfl⟩ := List.mem_map.1 he
          trivial
      · exact h.rids k s hs
    ids := h.ids
    env := fun n e x h1 h2 h3 => h.env n e x h1 h2 (by rw [← hval e]; exact h3)
    gv := fun n ch e h1 => by
      obtain ⟨q1, q2, q3, q4⟩ := h.gv n ch e h1
      exact ⟨fun hga => ⟨fun x hx => (q1 hga).1 x (by rw [← hval e]; exact hx), (q1 hga).2⟩, q2, q3, q4⟩ }
theorem VS.more {env : Env} {F : Hp} {rs : RL} {nx : Nat} {G : St → Prop} (id k : Nat) {b : Nat} {cells : List EV} {ty : TypeId} {cap : Nat} (rs' : List Value → RL) (hr : lkR rs id = some ⟨some b, cells, ty, cap⟩) (hrs : ∀ vs, forceL (setR rs id ⟨some b, cells ++ vs.map .v, ty, cap⟩) = some (rs' vs)) (hk : cells.length + k ≤ cap) (kk : ∀ vs : List Value, vs.length = k → G ⟨env, F, rs' vs, nx⟩) : VS N [] ⟨env, F, rs, nx⟩ G := fun c a w hs => by
  obtain ⟨vs, h1, h2⟩ := more_sat hs hr rfl hk
  have hq := hrs vs
  rw [forceL_eq, Option.some.injEq] at hq
  refine ⟨_, ?_, kk vs h1⟩
  rw [← hq]
  exact h2
end
end Go.TR
