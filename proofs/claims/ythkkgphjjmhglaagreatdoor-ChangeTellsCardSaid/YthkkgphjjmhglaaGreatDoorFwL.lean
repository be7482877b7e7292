/-
A small program logic of our own: copy, append onto a row of the call's own, append of noughts, overlaps.
-/
import Derived.Test.YthkkgphjjmhglaaGreatDoorSetFwD
import Derived.Lib.AppendZerosOnto
import Derived.Lib.Overlaps
import Derived.Laws.CopyRow
namespace Go.TR
set_option linter.unusedVariables false
set_option linter.unusedSimpArgs false
open Go.Lib
section
variable {P : Program} {tb : Tb} {N : Nat} {all rest : List Oper} {K : GEnv → St → Prop}
theorem one_of {c : Ctx} {g : GEnv} {st : St} {news : List EV} {vs : List Value} (h1 : oneAll st.rs news) (hl : vs.length = news.length) (hv : ∀ (j : Nat) (e : EV) (x : Value), news[j]? = some e → e.val st.rs = some x → vs[j]? = some x) : ∀ v ∈ vs, v.oneCell' = true := fun v hv2 => by
  obtain ⟨j, hj⟩ := List.getElem?_of_mem hv2
  have hjl : j < news.length := by rw [← hl]; exact (List.getElem?_eq_some_iff.1 hj).1
  have he := List.getElem?_eq_getElem hjl
  obtain ⟨g1, x, g2⟩ := h1 _ (List.getElem_mem hjl)
  have := hv j _ x he g2
  rw [hj] at this
  simp only [Option.some.injEq] at this
  subst this
  exact one_spec g1 g2
/-- copy into a row of the call's own, out of one. -/
theorem s_copy {d : Nat} {x y : Operand} {t1 t2 e : TypeId} {ty : TypeId} {pos : String} {af : Array Edge} {env : Env} {F : Hp} {rs rs' : RL} {nx id o n c b cap id2 o2 m c2 b2 cap2 : Nat} {cells cells2 : List EV} {tyb ty2 : TypeId} {ti : TI} (k : Nat) (news : List EV) (htb : TbOK P tb) (ht : tk tb t1 = some (.slice e)) (hi : tb e = some ti)
    (hx : opd rs [] env [] x = some (.row id o n c)) (hy : opd rs [] env [] y = some (.row id2 o2 m c2)) (hr : lkR rs id = some ⟨some b, cells, tyb, cap⟩) (hr2 : lkR rs id2 = some ⟨some b2, cells2, ty2, cap2⟩) (hd : Nat.blt d N = true) (hk : k = Nat.min m n) (hn : (cells2.take (o2 + k * ti.size)).drop o2 = news) (h1 : oneAll rs news)
    (hfit2 : o2 + k * ti.size ≤ cells2.length) (hfit : o + k * ti.size ≤ cells.length) (hrs : forceL (setR rs id ⟨some b, cells.take o ++ news ++ cells.drop (o + k * ti.size), tyb, cap⟩) = some rs')
    (kk : vcOps P tb N false all rest K [] ⟨(d, .v (.int .i64 (k : Nat))) :: env, F, rs', nx⟩) :
    vcOps P tb N false all (⟨some d, .call ⟨.builtin .copy, #[x, y], #[t1, t2]⟩, ty, pos, af, none⟩ :: rest) K [] ⟨env, F, rs, nx⟩ := by
  obtain ⟨i, z, hinfo, hsz, hby, hz, hzs⟩ := info_of htb hi
  have hut := und_slice htb ht
  rw [forceL_eq, Option.some.injEq] at hrs
  subst hrs
  have hnl : news.length = k * ti.size := by rw [← hn, List.length_drop, List.length_take]; omega
  refine s_semF (ι := Unit) (fun _ => .v (.int .i64 (k : Nat))) (env := fun _ => env) (F := fun _ => F) (rs := fun _ => setR rs id ⟨some b, cells.take o ++ news ++ cells.drop (o + k * ti.size), tyb, cap⟩) (nx := fun _ => nx) hd (fun c' a w op hs ho => ?_) (fun _ => kk)
  have ex := opd_eval hs hx
  simp only [EV.val, hr] at ex
  simp only [Option.map_some, Option.some.injEq] at ex
  have ey := opd_eval hs hy
  simp only [EV.val, hr2] at ey
  simp only [Option.map_some, Option.some.injEq] at ey
  obtain ⟨g1, g2, cur, g3, g4, g5⟩ := hs.wok.own.own id _ hr
  simp only at g2 g4
  obtain ⟨vs, v1, v2, v3⟩ := stretch hs hr2 rfl hfit2
  simp only at v3
  rw [hn] at v3
  have hone := one_of (c := c') (g := []) (st := ⟨env, F, rs, nx⟩) h1 (by rw [v1, hnl]) v3
  have hfc := run_firstCells_some (P := P) w ti.size k ⟨b2, o2, none⟩ m c2 vs v1 (fun j u hj => by rw [addr_add0]; exact v2 j u hj)
  have hst := run_storeCells_at (P := P) b o tyb vs 0 cur w g3 (by rw [v1, g4]; omega) hone
  simp only [Nat.add_zero] at hst
  refine ⟨(), .int .i64 (k : Nat), w.setRow b (cur.toList.take o ++ vs ++ cur.toList.drop (o + vs.length)).toArray, ?_, ?_, rfl⟩
  · simp only [execOp, ho, resolve, invoke, builtin]
    simp only [← ex, ← ey, List.map_toArray, List.map_cons, List.map_nil]
    rw [← hsz] at hfc
    rw [hk] at hfc
    simp [Builtin.copy_, run_underlying hut, Builtin.lenOf, sizeOf, typeInfo, hinfo, hfc, hst, goInt, hk]
  · have := store_sat hs hr rfl (es := news) (vs := vs) (off := o) (by rw [v1, hnl]) (by rw [hnl]; exact hfit) (fun e he => ?_) v3 g3
    · rw [hnl] at this
      exact this
    · rw [← hn] at he
      exact (hs.rids id2 _ hr2).2 e (List.mem_of_mem_take (List.mem_of_mem_drop he))
/-- append of noughts onto a row that has no room for them. -/
theorem s_appZR {d : Nat} {x y : Operand} {t1 t2 e : TypeId} {ty : TypeId} {pos : String} {af : Array Edge} {env : Env} {F : Hp} {rs : RL} {nx id n c b cap m : Nat} {cells : List EV} {tyb : TypeId} {ti : TI} {kk : IntKind} (htb : TbOK P tb) (ht : tk tb t1 = some (.slice e)) (ht2 : tk tb t2 = some (.int kk)) (hi : tb e = some ti) (h0 : (Nat.blt 0 ti.size && Nat.beq ti.zero.length ti.size) = true)
    (hx : opd rs [] env [] x = some (.row id 0 n c)) (hr : lkR rs id = some ⟨some b, cells, tyb, cap⟩) (hy : opd rs [] env [] y = some (.v (.int .i64 (m : Nat)))) (hd : Nat.blt d N = true) (hm : 0 < m) (hg : c < n + m) (hb : (n + m) * ti.bytes ≤ 140737488355328) (hby0 : (Nat.blt 0 ti.bytes) = true) (hfit : n * ti.size ≤ cells.length)
    (k : ∀ b' cap' (vs : List Value), n + m ≤ cap' → vs.length = m * ti.size → vcOps P tb N false all rest K [] ⟨(d, .row nx 0 (n + m) cap') :: env, F, (nx, ⟨some b', cells.take (n * ti.size) ++ vs.map .v, e, cap' * ti.size⟩) :: rs, nx + 1⟩) :
    vcOps P tb N false all (⟨some d, .call ⟨.builtin .append, #[x, y], #[t1, t2]⟩, ty, pos, af, none⟩ :: rest) K [] ⟨env, F, rs, nx⟩ := by
  simp only [Bool.and_eq_true, Nat.blt_eq, Nat.beq_eq] at h0 hby0
  obtain ⟨hs0, hz0⟩ := h0
  obtain ⟨i, z, hinfo, hsz, hby, hz, hzs⟩ := info_of htb hi
  have hut := und_slice htb ht
  have hun : P.underlying t2 = some (.int kk) := by
    obtain ⟨dsc, hu, hf⟩ := und_of_tk htb ht2
    simp only [TK.fits] at hf
    rw [hu, hf]
  have hnm : n + m ≤ (n + m) * ti.bytes := Nat.le_mul_of_pos_right _ hby0
  refine s_semF (ι := { q : Nat × Nat × List Value // n + m ≤ q.2.1 ∧ q.2.2.length = m * ti.size }) (fun q => .row nx 0 (n + m) q.1.2.1) (env := fun _ => env) (F := fun _ => F) (rs := fun q => (nx, ⟨some q.1.1, cells.take (n * ti.size) ++ q.1.2.2.map .v, e, q.1.2.1 * ti.size⟩) :: rs) (nx := fun _ => nx + 1) hd (fun c' a w o hs ho => ?_) (fun q => k q.1.1 q.1.2.1 q.1.2.2 q.2.1 q.2.2)
  have ex := opd_eval hs hx
  have ey := opd_eval hs hy
  simp only [EV.val, hr] at ex
  simp only [EV.val, Option.some.injEq] at ey
  simp only [Option.map_some, Option.some.injEq] at ex
  obtain ⟨vs0, v1, v2, v3⟩ := stretch hs hr rfl (o := 0) (k := n * ti.size) (by simpa using hfit)
  have hold := run_firstCells_some (P := P) w.drew ti.size n ⟨b, 0, none⟩ n c vs0 v1 (fun j u hj => by rw [addr_add0]; simpa using v2 j u hj)
  rw [← hsz] at hold
  have hrun := Lib.run_append_grow_zeros (P := P) w t1 t2 o.type e i z .i64 kk hut hun hinfo hz (some ⟨b, 0, none⟩) n c vs0 hold m hm (by omega) hg (by omega) (by rw [hby]; exact Nat.le_trans (Nat.mul_le_mul_right _ (Nat.le_add_left m n)) (by omega)) (growslice_fits hg (by rw [hby]; exact hb))
  have hge := grownCap_ge w (n + m) c e
  rw [ex, ey] at hrun
  have hzl : (Builtin.zeroCells z.cells m).toList.length = m * ti.size := by rw [Array.length_toList, size_zeroCells, hzs, hz0]
  refine ⟨⟨(w.heap.size, grownCap w (n + m) c e, (Builtin.zeroCells z.cells m).toList), hge, hzl⟩, _, _, run_append_op ho rfl rfl hrun, ?_, ?_⟩
  · have := grow_sat hs (rs' := rs) (fun _ _ h => h) (cells := cells.take (n * ti.size) ++ (Builtin.zeroCells z.cells m).toList.map EV.v) (xs := vs0 ++ (Builtin.zeroCells z.cells m).toList) (rest := Builtin.zeroCells z.cells (grownCap w (n + m) c e - (n + m))) (e := e) (cap := grownCap w (n + m) c e * ti.size) (by rw [List.length_append, List.length_append, List.length_map, v1, List.length_take]; omega) (by
      rw [List.length_append, v1, hzl, size_zeroCells, hzs, hz0, ← Nat.add_mul, ← Nat.add_mul]
      congr 1
      omega) (fun e he => by
        rcases List.mem_append.1 he with he | he
        · exact (hs.rids id _ hr).2 e (List.mem_of_mem_take he)
        · obtain ⟨v, _, rfl⟩ := List.mem_map.1 he
          trivial) (fun j e x hj hx => by
        rw [List.getElem?_append] at hj ⊢
        have e2 : (cells.take (n * ti.size)).length = vs0.length := by rw [List.length_take, v1]; omega
        rw [e2] at hj
        split
        · rename_i hlo
          rw [if_pos hlo] at hj
          exact v3 j e x (by simpa using hj) hx
        · rename_i hlo
          rw [if_neg hlo, List.getElem?_map, Option.map_eq_some_iff] at hj
          obtain ⟨v, h2, rfl⟩ := hj
          simp only [EV.val, Option.some.injEq] at hx
          rw [h2, hx])
    rw [show (vs0 ++ (Builtin.zeroCells z.cells m).toList).toArray = vs0.toArray ++ Builtin.zeroCells z.cells m from by apply Array.ext'; simp] at this
    exact this
  · simp only [EV.val, lkR_cons, if_true, Option.map_some]
/-- slices.overlaps of two rows of the call's own, in two blocks. -/
theorem s_over {d : Nat} {f : Nat} {x y : Operand} {ts : Array TypeId} {fn : Func} {t t4 e : TypeId} {ty : TypeId} {pos : String} {af : Array Edge} {env : Env} {F : Hp} {rs : RL} {nx id o n c b cap id2 o2 m c2 b2 cap2 : Nat} {cells cells2 : List EV} {tyb ty2 : TypeId} {ti : TI} (htb : TbOK P tb) (ht : tk tb t = some (.slice e)) (hi : tb e = some ti) (hf : P.funcs[f]? = some fn) (hname : (fn.name == "runtime.NumGoroutine") = false)
    (hb : fn.body.isNone = true) (hn : Extern.findNext fn = none) (he : Extern.find fn = some (Extern.SlicesOverlaps.overlaps #[t, t] #[t4])) (hx : opd rs [] env [] x = some (.row id o n c)) (hy : opd rs [] env [] y = some (.row id2 o2 m c2)) (hr : lkR rs id = some ⟨some b, cells, tyb, cap⟩) (hr2 : lkR rs id2 = some ⟨some b2, cells2, ty2, cap2⟩) (hne : Nat.beq id id2 = false) (hc : 0 < cap2) (hd : Nat.blt d N = true)
    (k : vcOps P tb N false all rest K [] ⟨(d, .v (.bool false)) :: env, F, rs, nx⟩) : vcOps P tb N false all (⟨some d, .call ⟨.value (.func f), #[x, y], ts⟩, ty, pos, af, none⟩ :: rest) K [] ⟨env, F, rs, nx⟩ := by
  obtain ⟨i, z, hinfo, hsz, hby, hz, hzs⟩ := info_of htb hi
  have hut := und_slice htb ht
  refine s_sem (.v (.bool false)) hd (fun c' a w op hs ho => ⟨.bool false, w, ?_, hs, rfl⟩) k
  have ex := opd_eval hs hx
  simp only [EV.val, hr] at ex
  simp only [Option.map_some, Option.some.injEq] at ex
  have ey := opd_eval hs hy
  simp only [EV.val, hr2] at ey
  simp only [Option.map_some, Option.some.injEq] at ey
  obtain ⟨_, _, cur, g3, g4, _⟩ := hs.wok.own.own id _ hr
  obtain ⟨_, _, cur2, k3, k4, _⟩ := hs.wok.own.own id2 _ hr2
  simp only at g3 k3 g4 k4
  have hbb : b ≠ b2 := fun e => by
    have := hs.wok.own.apart id id2 _ _ b hr hr2 rfl (by rw [e])
    rw [this] at hne
    simp at hne
  have h1 : a.eval (.func f) = .func (.func f) #[] #[] := rfl
  have h2 := run_callFunc_extern hf hname hb hn he #[a.eval x, a.eval y] w
  have hso : ∀ w, (Go.sizeOf e).run P w = .ok i.size w := fun w => by simp [sizeOf, typeInfo, hinfo]
  rw [← ex, ← ey, Lib.run_overlaps_apart (P := P) w t t4 e hut i.size hso ⟨b, o, none⟩ ⟨b2, o2, none⟩ n c m c2 hbb tyb ty2 cur.size cur2.size (by simp [World.shape?, g3]) (by simp [World.shape?, k3]) (by omega) (by simp [World.frozen?, g3]) (by simp [World.frozen?, g3])] at h2
  simp only [Result.andThen] at h2
  simp [execOp, ho, resolve, h1, Deferred.ofValue, invoke, ← ex, ← ey, h2]
/-- What lies behind the cells that are known. -/
theorem more_sat {c : Ctx} {g : GEnv} {env : Env} {F : Hp} {rs : RL} {nx : Nat} {a : Act} {w : World} (h : GSat c N g ⟨env, F, rs, nx⟩ a w) {id b : Nat} {r : Blk} (hr : lkR rs id = some r) (hb : r.blk = some b) {k : Nat} (hk : r.cells.length + k ≤ r.cap) :
    ∃ vs : List Value, vs.length = k ∧ GSat c N g ⟨env, F, setR rs id ⟨r.blk, r.cells ++ vs.map .v, r.ty, r.cap⟩, nx⟩ a w := by
  have hown := h.wok.own.own id r hr
  rw [hb] at hown
  obtain ⟨o1, o2, cur, o3, o4, o5⟩ := hown
  refine ⟨(cur.toList.drop r.cells.length).take k, by rw [List.length_take, List.length_drop, Array.length_toList]; omega, ?_⟩
  generalize hvs : (cur.toList.drop r.cells.length).take k = vs
  have hvl : vs.length = k := by rw [← hvs, List.length_take, List.length_drop, Array.length_toList]; omega
  have hval := fun e => val_setR (r' := ⟨r.blk, r.cells ++ vs.map .v, r.ty, r.cap⟩) hr rfl e
  exact {
    size := h.size
    defers := h.defers
    wok := {
      le := h.wok.le
      own := {
        own := fun k' s hs => by
          rw [lkR_setR] at hs
          split at hs
          · rw [hr] at hs
            simp only [Option.map_some, Option.some.injEq] at hs
            subst hs
            split
            · rename_i hn
              exact absurd (hb.symm.trans hn) (by simp)
            rename_i b0 hb0
            obtain rfl : b = b0 := by
              have := hb.symm.trans hb0
              simpa using this
            refine ⟨o1, by simp only [List.length_append, List.length_map]; omega, cur, o3, o4, fun j ev x hj hx => ?_⟩
            have hx' : ev.val rs = some x := by rw [← hval ev]; exact hx
            simp only at hj
            rw [List.getElem?_append] at hj
            split at hj
            · exact o5 j ev x hj hx'
            · rename_i hlo
              rw [List.getElem?_map, Option.map_eq_some_iff] at hj
              obtain ⟨v, hv, rfl⟩ := hj
              simp only [EV.val, Option.some.injEq] at hx
              subst hx
              rw [← hvs, List.getElem?_take] at hv
              split at hv
              · rw [List.getElem?_drop] at hv
                have e3 : r.cells.length + (j - r.cells.length) = j := by omega
                rw [e3] at hv
                simpa using hv
              · cases hv
          · have h1 := h.wok.own.own k' s hs
            cases hsb : s.blk with
            | none => rw [hsb] at h1; exact h1
            | some b' =>
              rw [hsb] at h1
              obtain ⟨g1, g2, cur', g3, g4, g5⟩ := h1
              exact ⟨g1, g2, cur', g3, g4, fun j ev x hj hx => g5 j ev x hj (by rw [← hval ev]; exact hx)⟩
        apart := fun i j s t b' hi hj hs ht => by
          rw [lkR_setR] at hi hj
          have conv : ∀ {k : Nat} {s : Blk}, (if k = id then (lkR rs id).map fun _ => (⟨r.blk, r.cells ++ vs.map .v, r.ty, r.cap⟩ : Blk) else lkR rs k) = some s → s.blk = some b' → ∃ s', lkR rs k = some s' ∧ s'.blk = some b' := by
            intro k s hk hsb
            split at hk
            · rename_i hkid
              rw [hr] at hk
              simp only [Option.map_some, Option.some.injEq] at hk
              subst hk
              subst hkid
              exact ⟨r, hr, hsb⟩
            · exact ⟨s, hk, hsb⟩
          obtain ⟨s', hs1, hs2⟩ := conv hi hs
          obtain ⟨t', ht1, ht2⟩ := conv hj ht
          exact h.wok.own.apart i j s' t' b' hs1 ht1 hs2 ht2 }
      pres := h.wok.pres
      new := fun k s b' hs hsb => by
        rw [lkR_setR] at hs
        split at hs
        · rw [hr] at hs
          simp only [Option.map_some, Option.some.injEq] at hs
          subst hs
          exact h.wok.new id r b' hr (Blk.at_some hb hsb rfl)
        · exact h.wok.new k s b' hs hsb
      fnew := h.wok.fnew
      sz := h.wok.sz
      tp := h.wok.tp }
    hist := {
      sub := h.hist.sub
      nxle := h.hist.nxle
      succ := fun k s hk hs => by
        rw [lkR_setR] at hs
        split at hs
        · rename_i hkid
          subst hkid
          rw [hr] at hs
          simp only [Option.map_some, Option.some.injEq] at hs
          subst hs
          exact h.hist.succ k r hk hr
        · exact h.hist.succ k s hk hs }
    rids := fun k s hs => by
      simp only [lkR_setR] at hs
      split at hs
      · rename_i hkid
        rw [hr] at hs
        simp only [Option.map_some, Option.some.injEq] at hs
        subst hs
        obtain ⟨q1, q2⟩ := h.rids id r hr
        refine ⟨by rw [hkid]; exact q1, fun e he => ?_⟩
        rcases List.mem_append.1 he with he | he
        · exact q2 e he
        · obtain ⟨v, _, rfl⟩ := List.mem_map.1 he
          trivial
      · exact h.rids k s hs
    ids := h.ids
    env := fun n e x h1 h2 h3 => h.env n e x h1 h2 (by rw [← hval e]; exact h3)
    gv := fun n ch e h1 => by
      obtain ⟨q1, q2, q3, q4⟩ := h.gv n ch e h1
      exact ⟨fun hga => ⟨fun x hx => (q1 hga).1 x (by rw [← hval e]; exact hx), (q1 hga).2⟩, q2, q3, q4⟩ }
theorem VS.more {env : Env} {F : Hp} {rs : RL} {nx : Nat} {G : St → Prop} (id k : Nat) {b : Nat} {cells : List EV} {ty : TypeId} {cap : Nat} (rs' : List Value → RL) (hr : lkR rs id = some ⟨some b, cells, ty, cap⟩) (hrs : ∀ vs, forceL (setR rs id ⟨some b, cells ++ vs.map .v, ty, cap⟩) = some (rs' vs)) (hk : cells.length + k ≤ cap) (kk : ∀ vs : List Value, vs.length = k → G ⟨env, F, rs' vs, nx⟩) : VS N [] ⟨env, F, rs, nx⟩ G := fun c a w hs => by
  obtain ⟨vs, h1, h2⟩ := more_sat hs hr rfl hk
  have hq := hrs vs
  rw [forceL_eq, Option.some.injEq] at hq
  refine ⟨_, ?_, kk vs h1⟩
  rw [← hq]
  exact h2
end
end Go.TR
