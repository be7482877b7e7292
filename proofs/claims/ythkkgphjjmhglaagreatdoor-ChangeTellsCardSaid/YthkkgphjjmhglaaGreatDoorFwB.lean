/-
A small program logic of our own for the model. Part r: appending to rows of the call's own, bytes read as a string, a callee that works on the caller's memory. Nothing here speaks of one program.
-/
import Derived.Test.YthkkgphjjmhglaaGreatDoorFwA
import Derived.Deep.AppendSrc
import Derived.Deep.Upon
import Derived.Laws.BytesArg
import Derived.Laws.CopyRow
import Derived.StillTail
import Derived.Deep.LoopGhost
import Derived.Lib.Builder
import Derived.Lib.UnsafeStr
import Derived.Laws.Externs
set_option linter.unusedVariables false
set_option linter.unusedSimpArgs false
/-!
A small program logic of our own for the model. Part r: appending to rows of the call's own, bytes read as a string, a callee that works on the caller's memory. Nothing here speaks of one program.
-/
namespace Go.TR
variable {P : Program} {tb : Tb} {N : Nat}

theorem lkR_delR {rs : RL} {id k : Nat} : lkR (delR rs id) k = if k = id then none else lkR rs k := by
  induction rs with
  | nil => simp [delR, lkR]
  | cons p rs ih =>
    obtain ⟨m, r⟩ := p
    simp only [delR]
    by_cases hm : id = m
    · subst hm
      simp only [Nat.beq_refl]
      rw [ih, lkR_cons]
      by_cases hk : k = id <;> simp [hk]
    · rw [show Nat.beq id m = false from (by cases hb : Nat.beq id m with | false => rfl | true => exact absurd (Nat.eq_of_beq_eq_true hb) hm)]
      simp only []
      rw [lkR_cons, ih, lkR_cons]
      by_cases hk : k = m
      · subst hk
        rw [if_pos rfl, if_neg (fun e => hm e.symm), if_pos rfl]
      · rw [if_neg hk, if_neg hk]
theorem val_sub {rs rs' : RL} (h : ∀ k r, lkR rs' k = some r → lkR rs k = some r) {e : EV} {x : Value} (hx : e.val rs' = some x) : e.val rs = some x := by
  cases e with
  | v y => exact hx
  | loc id o =>
    simp only [EV.val] at hx ⊢
    split at hx
    · rename_i r hr; rw [h _ _ hr]; exact hx
    · simp at hx
  | row id o n c =>
    simp only [EV.val] at hx ⊢
    split at hx
    · rename_i r hr; rw [h _ _ hr]; exact hx
    · simp at hx

/-- A block gets a new name, and new cells; a name may go. -/
theorem renew_sat {c : Ctx} {g : GEnv} {env : Env} {F : Hp} {rs rs' : RL} {nx : Nat} {a : Act} {w w' : World} (h : GSat c N g ⟨env, F, rs, nx⟩ a w) (hsub : ∀ k r, lkR rs' k = some r → lkR rs k = some r) {b : Nat} {X : List Nat} (hp : Pres X w w') (hX : ∀ y ∈ X, y = b)
    (hF : F b = none) (hb : c.wE.heap.size ≤ b) (hdis : ∀ k r, lkR rs' k = some r → r.blk ≠ some b) {cur : Array Value} {t : TypeId} (hcur : w'.heap[b]? = some (.cells cur t (0, 0))) {cells : List EV} {cap : Nat} (hcap : cur.size = cap) (hlen : cells.length ≤ cap)
    (hlt : ∀ e ∈ cells, e.lt nx) (hcells : ∀ (j : Nat) (e : EV) (x : Value), cells[j]? = some e → e.val rs = some x → cur[j]? = some x) :
    GSat c N g ⟨env, F, (nx, ⟨some b, cells, t, cap⟩) :: rs', nx + 1⟩ a w' := by
  have hne : ∀ id r, lkR rs' id = some r → id ≠ nx := fun id r hr => by have := (h.rids id r (hsub _ _ hr)).1; simp only at this; omega
  have hval : ∀ e : EV, e.lt nx → ∀ x, e.val ((nx, ⟨some b, cells, t, cap⟩) :: rs') = some x → e.val rs = some x := fun e he x hx => by
    rw [val_cons he] at hx
    exact val_sub hsub hx
  have hle := h.wok.le.pres hp (fun y hy => by rw [hX y hy]; exact hF)
  exact {
    size := h.size
    defers := h.defers
    wok := {
      le := hle
      own := {
        own := fun id r hr => by
          rw [lkR_cons] at hr
          split at hr
          · simp only [Option.some.injEq] at hr
            subst hr
            refine ⟨hF, hlen, cur, hcur, hcap, fun j ev x hj hx => ?_⟩
            exact hcells j ev x hj (hval ev (hlt ev (List.mem_of_getElem? hj)) x hx)
          · have h1 := h.wok.own.own id r (hsub _ _ hr)
            have hd := hdis id r hr
            cases hbr : r.blk with
            | none => rw [hbr] at h1; exact h1
            | some b' =>
              rw [hbr] at h1
              obtain ⟨g1, g2, cur', g3, g4, g5⟩ := h1
              have hbb : b' ∉ X := fun hm => hd (by rw [hbr, hX _ hm])
              refine ⟨g1, g2, cur', (hp.block _ (lt_of_some g3) hbb).trans g3, g4, fun j ev x hj hx => g5 j ev x hj ?_⟩
              exact hval ev ((h.rids id r (hsub _ _ hr)).2 ev (List.mem_of_getElem? hj)) x hx
        apart := fun i j r s b' hi hj hbr hbs => by
          rw [lkR_cons] at hi hj
          split at hi
          · split at hj
            · omega
            · simp only [Option.some.injEq] at hi
              subst hi
              simp only [Option.some.injEq] at hbr
              subst hbr
              exact absurd hbs (hdis j s hj)
          · split at hj
            · simp only [Option.some.injEq] at hj
              subst hj
              simp only [Option.some.injEq] at hbs
              subst hbs
              exact absurd hbr (hdis i r hi)
            · exact h.wok.own.apart i j r s b' (hsub _ _ hi) (hsub _ _ hj) hbr hbs }
      pres := h.wok.pres.trans' hp (fun y hy => .inr (by rw [hX y hy]; exact hb))
      new := fun id r b' hr hbr => by
        rw [lkR_cons] at hr
        split at hr
        · simp only [Option.some.injEq] at hr
          subst hr
          rcases hbr with hbr | ⟨hbr, _⟩
          · simp only [Option.some.injEq] at hbr
            omega
          · cases hbr
        · exact h.wok.new id r b' (hsub _ _ hr) hbr
      fnew := h.wok.fnew
      sz := Nat.le_trans h.wok.sz hp.size
      tp := h.wok.tp }
    hist := Hist.cons {
      sub := h.hist.sub
      nxle := h.hist.nxle
      succ := fun id r hid hr => h.hist.succ id r hid (hsub _ _ hr) } _
    rids := fun id r hr => by
      simp only [lkR_cons] at hr
      split at hr
      · simp only [Option.some.injEq] at hr
        subst hr
        exact ⟨by simp only; omega, fun e he => (hlt e he).mono (Nat.le_succ _)⟩
      · obtain ⟨h1, h2⟩ := h.rids id r (hsub _ _ hr)
        exact ⟨by simp only at h1 ⊢; omega, fun e he => (h2 e he).mono (Nat.le_succ _)⟩
    ids := fun n e he => (h.ids n e he).mono (Nat.le_succ _)
    env := fun n e x hg he hx => h.env n e x hg he (hval e (h.ids n e he) x hx)
    gv := fun n ch e hg => by
      obtain ⟨h1, h2, h3, h4⟩ := h.gv n ch e hg
      exact ⟨fun hA => ⟨fun x hx => (h1 hA).1 x (hval e h3 x hx), (h1 hA).2⟩, h2, h3.mono (Nat.le_succ _), h4⟩ }

/-! ### What is appended -/
theorem und_slice (htb : TbOK P tb) {t e : TypeId} (h : tk tb t = some (.slice e)) : P.underlying t = some (.slice e) := by
  obtain ⟨d, h1, h2⟩ := und_of_tk htb h
  simp only [TK.fits] at h2
  rw [h1, h2]
theorem und_str (htb : TbOK P tb) {t : TypeId} (h : tk tb t = some .string) : P.underlying t = some .string := by
  obtain ⟨d, h1, h2⟩ := und_of_tk htb h
  simp only [TK.fits] at h2
  rw [h1, h2]
theorem addr_add0 (b o j : Nat) : ((⟨b, o, none⟩ : Addr).add j) = ⟨b, o + j, none⟩ := addr_add b o j
/-- The values of a stretch of a block's cells. -/
theorem stretch {c : Ctx} {g : GEnv} {st : St} {a : Act} {w : World} (h : GSat c N g st a w) {id : Nat} {r : Blk} {b : Nat} (hr : lkR st.rs id = some r) (hb : r.blk = some b) {o k : Nat} (hk : o + k ≤ r.cells.length) :
    ∃ vs : List Value, vs.length = k ∧ (∀ j u, vs[j]? = some u → w.cell? ⟨b, o + j, none⟩ = some u) ∧ ∀ (j : Nat) (e : EV) (x : Value), ((r.cells.take (o + k)).drop o)[j]? = some e → e.val st.rs = some x → vs[j]? = some x := by
  have hown := h.wok.own.own id r hr
  rw [hb] at hown
  obtain ⟨_, o2, cur, o3, o4, o5⟩ := hown
  refine ⟨(cur.toList.take (o + k)).drop o, by simp; omega, fun j u hj => ?_, fun j e x hj hx => ?_⟩
  · rw [List.getElem?_drop, List.getElem?_take] at hj
    split at hj
    · simp only [World.cell?, o3]
      simpa using hj
    · simp at hj
  · rw [List.getElem?_drop, List.getElem?_take] at hj ⊢
    split at hj
    · rename_i hlt
      rw [if_pos hlt]
      simpa using o5 _ e x hj hx
    · simp at hj
theorem frow_cell {F : Hp} {w : World} (hF : F.le w) {ad : Addr} {cs : List Value} (h : Frow F (some ad) cs) : ∀ j u, cs[j]? = some u → w.cell? (ad.add j) = some u := fun j u hj => by
  have := h j u hj
  simp only [padd, Option.map_some, Pcell, Option.bind_some] at this
  exact Fcell.world hF this
/-- The source of an append: the values behind the elements that the evaluator knows. -/
theorem src_ok (htb : TbOK P tb) {c : Ctx} {g : GEnv} {st : St} {a : Act} {w : World} (h : GSat c N g st a w) {t2 : TypeId} {size : Nat} (hs0 : 0 < size) (ht2 : srcTy (tk tb t2) = true) {y : Operand} {K : Nat → List EV → Prop} (hk : srcV st.F st.rs size (fun m news => oneAll st.rs news ∧ K m news) (opd st.rs g st.env [] y)) :
    ∃ m news vs, K m news ∧ Src P size t2 (a.eval y) m vs w ∧ vs.length = news.length ∧ (∀ e ∈ news, e.lt st.nx) ∧ ∀ (j : Nat) (e : EV) (x : Value), news[j]? = some e → e.val st.rs = some x → vs[j]? = some x := by
  have hrl : ∀ id r, lkR st.rs id = some r → id < st.nx := fun id r hr => (h.rids id r hr).1
  have hty : (∃ e, P.underlying t2 = some (.slice e)) ∨ P.underlying t2 = some .string := by
    unfold srcTy at ht2
    split at ht2
    · rename_i e he; exact .inl ⟨e, und_slice htb he⟩
    · rename_i he; exact .inr (und_str htb he)
    · cases ht2
  have hF := fits_opd h (gA_nil a)
  unfold srcV at hk
  split at hk
  · rename_i id o m cc hy
    have e1 := hF _ _ hy
    cases hr : lkR st.rs id with
    | none => simp [hr, srcR] at hk
    | some r =>
      simp only [EV.val, hr] at e1
      simp only [Option.some.injEq] at e1
      obtain ⟨rb, cells, ty, cap⟩ := r
      cases rb with
      | none =>
        simp only [hr, srcR] at hk
        obtain ⟨rfl, h1, h2⟩ := hk
        refine ⟨0, [], [], h2, ?_, rfl, fun e he => (by cases he), fun j e x hj => (by simp at hj)⟩
        rw [← e1]
        exact ⟨hty, fun _ => rfl, run_firstCells_none w size 0 0 cc, run_firstCells_none w.drew size 0 0 cc, by simp, fun _ h => by cases h⟩
      | some b =>
        simp only [hr, srcR] at hk
        obtain ⟨h1, h2, h3⟩ := hk
        obtain ⟨vs, v1, v2, v3⟩ := stretch h hr rfl h1
        have hl : ((cells.take (o + m * size)).drop o).length = m * size := by simp; omega
        refine ⟨m, _, vs, h3, ?_, by rw [v1, hl], fun e he => (h.rids id _ hr).2 e (List.mem_of_mem_take (List.mem_of_mem_drop he)), v3⟩
        rw [← e1]
        have hc : ∀ j u, vs[j]? = some u → w.cell? ((⟨b, o, none⟩ : Addr).add j) = some u := fun j u hj => by rw [addr_add0]; exact v2 j u hj
        refine ⟨hty, fun _ => rfl, run_firstCells_some w size m _ _ _ vs v1 hc, run_firstCells_some w.drew size m _ _ _ vs v1 (by simpa using hc), v1, fun u hu => ?_⟩
        obtain ⟨j, hj⟩ := List.getElem?_of_mem hu
        have hjl : j < ((cells.take (o + m * size)).drop o).length := by rw [hl, ← v1]; exact (List.getElem?_eq_some_iff.1 hj).1
        have he := List.getElem?_eq_getElem hjl
        obtain ⟨g1, x, g2⟩ := h2 _ (List.mem_of_getElem? he)
        have := v3 j _ x he g2
        rw [hj] at this
        simp only [Option.some.injEq] at this
        subst this
        exact one_spec g1 g2
  · rename_i p m cc hy
    have e1 := hF _ _ hy
    simp only [EV.val, Option.some.injEq] at e1
    obtain ⟨cs, h1, h2, h3, h4⟩ := hk
    refine ⟨m, _, cs, h4, ?_, by simp, fun e he => ?_, fun j e x hj hx => ?_⟩
    · rw [← e1]
      have hone : ∀ u ∈ cs, u.oneCell' = true := fun u hu => by
        obtain ⟨g1, x, g2⟩ := h3 (.v u) (List.mem_map.2 ⟨u, hu, rfl⟩)
        simp only [EV.val, Option.some.injEq] at g2
        exact one_spec (rs := st.rs) g1 rfl
      cases p with
      | none =>
        have : cs = [] := by
          cases cs with
          | nil => rfl
          | cons u t => have := h2 0 u rfl; simp [padd, Pcell] at this
        subst this
        have hm : m = 0 := by
          simp only [List.length_nil] at h1
          rcases Nat.mul_eq_zero.1 h1.symm with h0 | h0
          · exact h0
          · omega
        subst hm
        exact ⟨hty, fun _ => rfl, run_firstCells_none w size 0 0 cc, run_firstCells_none w.drew size 0 0 cc, by simp, fun _ h => by cases h⟩
      | some ad =>
        have hc := frow_cell h.wok.le h2
        exact ⟨hty, fun _ => rfl, run_firstCells_some w size m _ _ _ cs h1 hc, run_firstCells_some w.drew size m _ _ _ cs h1 (by simpa using hc), h1, hone⟩
    · obtain ⟨u, _, rfl⟩ := List.mem_map.1 he; trivial
    · rw [List.getElem?_map, Option.map_eq_some_iff] at hj
      obtain ⟨u, hu, rfl⟩ := hj
      simp only [EV.val, Option.some.injEq] at hx
      subst hx
      exact hu
  · rename_i s hy
    have e1 := hF _ _ hy
    simp only [EV.val, Option.some.injEq] at e1
    obtain ⟨rfl, h3, h4⟩ := hk
    refine ⟨_, _, byteCells s, h4, ?_, by simp [byteCells, bl], fun e he => ?_, fun j e x hj hx => ?_⟩
    · rw [← e1]
      have hl : s.size = (bl s).length := by simp [bl_size]
      rw [← hl]
      exact ⟨hty, fun _ => rfl, firstCells_string s w, firstCells_string s w.drew, by rw [byteCells_length, Nat.mul_one], fun u hu => by
        obtain ⟨_, _, rfl⟩ := List.mem_map.1 hu
        rfl⟩
    · obtain ⟨u, _, rfl⟩ := List.mem_map.1 he; trivial
    · rw [List.getElem?_map, Option.map_eq_some_iff] at hj
      obtain ⟨u, hu, rfl⟩ := hj
      simp only [EV.val, Option.some.injEq] at hx
      subst hx
      simp only [byteCells, List.getElem?_map]
      rw [show s.data.toList[j]? = some u from hu]
      rfl
  · exact hk.elim
/-! ### append -/
theorem info_of (htb : TbOK P tb) {e : TypeId} {ti : TI} (h : tb e = some ti) : ∃ i z, P.info? e = some i ∧ i.size = ti.size ∧ i.bytes = ti.bytes ∧ i.zero = some z ∧ z.cells.size = ti.zero.length := by
  obtain ⟨i, h1, h2, h3, z, h4, h5⟩ := (htb e ti h).info
  exact ⟨i, z, h1, h2, h3, h4, by rw [← h5]; simp⟩
theorem run_append_room_at (w : World) (t tx ty e : TypeId) (i : TypeInfo) (ht : P.underlying t = some (.slice e)) (hi : P.info? e = some i) (b sLen sCap : Nat) (x : Value) (n : Nat) (news : List Value) (hs : Src P i.size tx x n news w)
    (hroom : sLen + n ≤ sCap) {cur : Array Value} {ct : TypeId} (hcur : w.heap[b]? = some (.cells cur ct (0, 0))) (hfit : sLen * i.size + news.length ≤ cur.size) :
    (Builtin.append_ #[t, tx] ty #[.slice (some ⟨b, 0, none⟩) sLen sCap, x]).run P w = .ok (.slice (some ⟨b, 0, none⟩) (sLen + n) sCap) (w.setRow b (cur.toList.take (sLen * i.size) ++ news ++ cur.toList.drop (sLen * i.size + news.length)).toArray) := by
  have hst := run_storeCells_at (P := P) b (sLen * i.size) ct news 0 cur w hcur (by simpa using hfit) hs.one
  simp only [Nat.add_zero] at hst
  have h0 : (⟨b, 0, none⟩ : Addr).add (sLen * i.size) = ⟨b, sLen * i.size, none⟩ := by rw [addr_add0, Nat.zero_add]
  rcases hs.kind with ⟨e', hk⟩ | hk <;> simp [Builtin.append_, run_underlying ht, run_underlying hk, sizeOf, typeInfo, hi, hs.len, hroom, hs.cells, h0, hst]
theorem run_append_op {a : Act} {o : Oper} {args : Array Operand} {ts : Array TypeId} {x y : Operand} {t1 t2 : TypeId} (ho : o.op = .call ⟨.builtin .append, args, ts⟩) (ha : args.toList = [x, y]) (ht : ts.toList = [t1, t2]) {w w' : World} {v : Value}
    (h : (Builtin.append_ #[t1, t2] o.type #[a.eval x, a.eval y]).run P w = .ok v w') : (execOp a.eval o).run P w = .ok (.value v) w' := by
  have e1 : args = #[x, y] := by apply Array.ext'; simpa using ha
  have e2 : ts = #[t1, t2] := by apply Array.ext'; simpa using ht
  subst e1 e2
  simp [execOp, ho, resolve, invoke, builtin, h]

/-- Behind the growing arm. -/
theorem grow_sat {c : Ctx} {g : GEnv} {env : Env} {F : Hp} {rs rs' : RL} {nx : Nat} {a : Act} {w : World} (h : GSat c N g ⟨env, F, rs, nx⟩ a w) (hsub : ∀ k r, lkR rs' k = some r → lkR rs k = some r) {cells : List EV} {xs : List Value} {rest : Array Value} {e : TypeId} {cap : Nat}
    (hl : xs.length = cells.length) (hcap : xs.length + rest.size = cap) (hlt : ∀ e ∈ cells, e.lt nx) (hcells : ∀ (j : Nat) (e : EV) (x : Value), cells[j]? = some e → e.val rs = some x → xs[j]? = some x) :
    GSat c N g ⟨env, F, (nx, ⟨some w.heap.size, cells, e, cap⟩) :: rs', nx + 1⟩ a (w.drew.alloc (.cells (xs.toArray ++ rest) e)) := by
  have hs0 : w.drew.heap.size = w.heap.size := rfl
  have hp : Pres [] w (w.drew.alloc (.cells (xs.toArray ++ rest) e)) := (Pres.drewN [] w 1).trans (Pres.alloc [] w.drew _)
  have hfr : F w.heap.size = none := by
    cases hf : F w.heap.size with
    | none => rfl
    | some o => have := lt_of_some (h.wok.le _ _ hf); omega
  refine renew_sat h hsub hp (fun y hy => by cases hy) hfr h.wok.pres.size (fun k r hr hb => ?_) (cur := xs.toArray ++ rest) (by rw [← hs0]; exact heap_alloc_new w.drew _) (by simp [← hcap]) (by omega) hlt (fun j e x hj hx => ?_)
  · have := h.wok.own.lt (hsub _ _ hr) hb
    omega
  · have := hcells j e x hj hx
    have hj' := (List.getElem?_eq_some_iff.1 this).1
    rw [Array.getElem?_append_left (by simpa using hj')]
    simpa using this

theorem app_wp (htb : TbOK P tb) {c : Ctx} {g : GEnv} {st : St} {a : Act} {w : World} (h : GSat c N g st a w) {o : Oper} {args : Array Operand} {ts : Array TypeId} (ho : o.op = .call ⟨.builtin .append, args, ts⟩) {K : GEnv → St → Prop} {Q : Exit → Act → World → Prop} {K' : Act → World → Prop}
    (hK : ∀ g' st' a' w', GSat c N g' st' a' w' → K g' st' → K' a' w') {x y : Operand} {t1 t2 : TypeId} (ha : args.toList = [x, y]) (hts : ts.toList = [t1, t2])
    (hk : appV tb N o.dst K g st t2 (opd st.rs g st.env [] x) (opd st.rs g st.env [] y) (tk tb t1)) : o.wp P a w K' Q := by
  unfold appV at hk
  split at hk
  · rename_i e ht1
    obtain ⟨hst, hk⟩ := hk
    cases hti : tb e with
    | none => simp [hti, appS] at hk
    | some ti =>
      rw [hti] at hk
      simp only [appS] at hk
      obtain ⟨hs0, hb0, hz0, hk⟩ := hk
      obtain ⟨m, news, vs, hk, hsrc, hvl, hnlt, hnv⟩ := src_ok htb h hs0 hst hk
      obtain ⟨i, z, hi, hsz, hby, hz, hzs⟩ := info_of htb hti
      have hut := und_slice htb ht1
      have hF := fits_opd h (gA_nil a)
      have hsrc' : Src P i.size t2 (a.eval y) m vs w := by rw [hsz]; exact hsrc
      have hnl : vs.length = m * ti.size := hsrc.newsLen
      obtain ⟨env, F, rs, nx⟩ := st
      -- what is there behind the operation
      have fin : ∀ {rs' : RL} {olds : List EV} {b cap n : Nat} {w' : World}, GSat c N g ⟨env, F, (nx, ⟨some b, olds ++ news, e, cap * ti.size⟩) :: rs', nx + 1⟩ a w' → putV N [] o.dst (.row nx 0 (n + m) cap) K g ⟨env, F, (nx, ⟨some b, olds ++ news, e, cap * ti.size⟩) :: rs', nx + 1⟩ → K' (a.put o.dst (.slice (some ⟨b, 0, none⟩) (n + m) cap)) w' := fun {rs' olds b cap n w'} hs hput => by
        have hv : (EV.row nx 0 (n + m) cap).val ((nx, ⟨some b, olds ++ news, e, cap * ti.size⟩) :: rs') = some (.slice (some ⟨b, 0, none⟩) (n + m) cap) := by
          simp only [EV.val, lkR_cons, if_true]; rfl
        obtain ⟨g', st', h1, _, _, _, h2, _⟩ := putV_sat hs (ch := []) (e := .row nx 0 (n + m) cap) (by simp only [EV.lt]; omega) (fun _ => hv) (fun _ => trivial) (chfree_nil _ _) hput
        exact hK _ _ _ _ (h2 (gA_nil a)) h1
      have same : ∀ {ev : EV} {v : Value}, opd rs g env [] x = some ev → ev.val rs = some v → putV N [] o.dst ev K g ⟨env, F, rs, nx⟩ → K' (a.put o.dst v) w := fun {ev v} hev hv hput => by
        obtain ⟨g', st', h1, _, _, _, h2, _⟩ := putV_sat h (ch := []) (e := ev) (v := v) (opd_lt h [] _ _ hev) (fun _ => hv) (fun _ => trivial) (chfree_nil _ _) hput
        exact hK _ _ _ _ (h2 (gA_nil a)) h1
      -- the growing arm
      have grow : ∀ {p : Option Addr} {n cc : Nat} {oldE : List EV} {oldV : List Value} {rs' : RL}, a.eval x = .slice p n cc → (∀ k r, lkR rs' k = some r → lkR rs k = some r) → (Builtin.firstCells i.size n (.slice p n cc)).run P w.drew = .ok oldV.toArray w.drew → oldV.length = n * ti.size → oldE.length = oldV.length → (∀ e ∈ oldE, e.lt nx) →
          (∀ (j : Nat) (e : EV) (x : Value), oldE[j]? = some e → e.val rs = some x → oldV[j]? = some x) → cc < n + m → (n + m) * ti.bytes ≤ 140737488355328 →
          (∀ b cap, n + m ≤ cap → putV N [] o.dst (.row nx 0 (n + m) cap) K g ⟨env, F, (nx, ⟨some b, oldE ++ news, e, cap * ti.size⟩) :: rs', nx + 1⟩) → o.wp P a w K' Q := fun {p n cc oldE oldV rs'} hax hsub hold hol hoe hlt hov hg hby' hput => by
        have hnm : n + m ≤ (n + m) * ti.bytes := Nat.le_mul_of_pos_right _ hb0
        have hr := run_append_grow_src w t1 t2 o.type e i z hut hi hz p n cc oldV hold (a.eval y) m vs hsrc' hg (by omega) (growslice_fits hg (by rw [hby]; exact hby'))
        rw [← hax] at hr
        refine wp_of_run (run_append_op ho ha hts hr) ?_
        have hge := grownCap_ge w (n + m) cc e
        refine fin (olds := oldE) (rs' := rs') ?_ (hput _ _ hge)
        refine grow_sat h hsub (by simp [hoe, hvl]) ?_ (fun e he => ?_) (fun j e x hj hx => ?_)
        · rw [size_zeroCells, hzs, hz0, List.length_append, hol, hnl, ← Nat.add_mul, ← Nat.add_mul]
          congr 1
          omega
        · rcases List.mem_append.1 he with he | he
          · exact hlt e he
          · exact hnlt e he
        · rw [List.getElem?_append] at hj ⊢
          rw [← hoe]
          split
          · rename_i hlo
            rw [if_pos hlo] at hj
            exact hov j e x hj hx
          · rename_i hlo
            rw [if_neg hlo] at hj
            exact hnv _ e x hj hx
      unfold appD at hk
      split at hk
      · rename_i id n cc hx
        have e1 := hF _ _ hx
        simp only at hk hx
        cases hr : lkR rs id with
        | none => simp [hr, appR] at hk
        | some r =>
          have hsub : ∀ k r, lkR (delR rs id) k = some r → lkR rs k = some r := fun k r hkr => by
            rw [lkR_delR] at hkr
            split at hkr
            · cases hkr
            · exact hkr
          simp only [EV.val, hr, Option.some.injEq] at e1
          have hval : (EV.row id 0 n cc).val rs = some (a.eval x) := by simp only [EV.val, hr, e1]
          obtain ⟨rb, cells, ty, cap⟩ := r
          cases rb with
          | none =>
            simp only [hr, appR, appK] at hk
            obtain ⟨rfl, rfl, hk1, hk2⟩ := hk
            simp only [Option.map_none] at e1
            rcases Nat.eq_zero_or_pos m with hm | hm
            · have hvs : vs = [] := List.eq_nil_of_length_eq_zero (by rw [hnl, hm, Nat.zero_mul])
              subst hvs
              subst hm
              have hr := run_append_nothing w t1 t2 o.type e i hut hi none 0 0 (Nat.le_refl _) (a.eval y) hsrc'
              rw [e1] at hr
              exact wp_of_run (run_append_op ho ha hts hr) (same hx hval (hk1 rfl))
            · obtain ⟨hby', hput⟩ := hk2 hm
              exact grow (oldE := []) (oldV := []) e1.symm hsub (run_firstCells_none _ _ _ _ _) (by simp) rfl (fun e he => by cases he) (fun j e x hj => by simp at hj) (by omega) (hby' (by omega)) (fun b cap hc => hput b cap hc (fun h => by omega))
          | some b =>
            simp only [hr, appR, appK] at hk
            obtain ⟨rfl, hnc, hcap, hncells, hk1, hk2⟩ := hk
            simp only [Option.map_some] at e1
            rcases Nat.eq_zero_or_pos m with hm | hm
            · have hvs : vs = [] := List.eq_nil_of_length_eq_zero (by rw [hnl, hm, Nat.zero_mul])
              subst hvs
              subst hm
              have hr := run_append_nothing w t1 t2 o.type ty i hut hi (some ⟨b, 0, none⟩) n cc hnc (a.eval y) hsrc'
              rw [e1] at hr
              exact wp_of_run (run_append_op ho ha hts hr) (same hx hval (hk1 rfl))
            · obtain ⟨hby', hput⟩ := hk2 hm
              by_cases hroom : n + m ≤ cc
              · have hown := h.wok.own.own id _ hr
                simp only at hown
                obtain ⟨o1, o2, cur, o3, o4, o5⟩ := hown
                have hfit : n * ti.size + vs.length ≤ cur.size := by
                  rw [o4, hcap, hnl, ← Nat.add_mul]
                  exact Nat.mul_le_mul_right _ hroom
                have hrun := run_append_room_at w t1 t2 o.type ty i hut hi b n cc (a.eval y) m vs hsrc' hroom o3 (by rw [hsz]; exact hfit)
                rw [e1, hsz] at hrun
                refine wp_of_run (run_append_op ho ha hts hrun) ?_
                refine fin (olds := cells.take (n * ti.size)) (rs' := delR rs id) ?_ (hput b cc hroom (fun _ => rfl))
                have hp : Pres [b] w (w.setRow b (cur.toList.take (n * ti.size) ++ vs ++ cur.toList.drop (n * ti.size + vs.length)).toArray) := ⟨rfl, rfl, rfl, by simp [World.setRow], fun k _ hk => setRow_other w b k _ (by simpa using hk)⟩
                refine renew_sat h hsub hp (fun y hy => by simpa using hy) o1 (h.wok.new id _ b hr (.inl rfl)) (fun k r hkr hbr => ?_) (setRow_heap w b cur _ _ _ o3) ?_ ?_ (fun e he => ?_) (fun j e x hj hx => ?_)
                · rw [lkR_delR] at hkr
                  split at hkr
                  · cases hkr
                  · rename_i hne
                    exact hne (h.wok.own.apart k id r _ b hkr hr hbr rfl)
                · simp only [List.size_toArray, List.length_append, List.length_take, List.length_drop, Array.length_toList]
                  omega
                · rw [List.length_append, List.length_take, ← hvl]
                  omega
                · rcases List.mem_append.1 he with he | he
                  · exact (h.rids id _ hr).2 e (List.mem_of_mem_take he)
                  · exact hnlt e he
                · simp only [List.getElem?_toArray]
                  rw [List.append_assoc, List.getElem?_append]
                  rw [List.getElem?_append] at hj
                  have e2 : (cells.take (n * ti.size)).length = n * ti.size := by simp; omega
                  have e3 : (cur.toList.take (n * ti.size)).length = n * ti.size := by simp; omega
                  rw [e2] at hj
                  rw [e3]
                  split
                  · rename_i hlo
                    rw [if_pos hlo, List.getElem?_take, if_pos hlo] at hj
                    rw [List.getElem?_take, if_pos hlo]
                    simpa using o5 j e x hj hx
                  · rename_i hlo
                    rw [if_neg hlo] at hj
                    have := hnv _ e x hj hx
                    rw [List.getElem?_append_left (List.getElem?_eq_some_iff.1 this).1]
                    exact this
              · obtain ⟨vs0, v1, v2, v3⟩ := stretch h (st := ⟨env, F, rs, nx⟩) hr rfl (o := 0) (k := n * ti.size) (by simpa using hncells)
                refine grow (oldE := cells.take (n * ti.size)) (oldV := vs0) e1.symm hsub ?_ v1 (by rw [v1]; simp; omega) (fun e he => (h.rids id _ hr).2 e (List.mem_of_mem_take he)) (fun j e x hj hx => v3 j e x (by simpa using hj) hx) (by omega) (hby' (by omega)) (fun b cap hc => hput b cap hc (fun h => absurd h hroom))
                rw [hsz]
                exact run_firstCells_some w.drew ti.size n _ _ _ vs0 v1 (fun j u hj => by rw [addr_add0]; simpa using v2 j u hj)
      · rename_i p n cc hx
        have e1 := hF _ _ hx
        simp only [EV.val, Option.some.injEq] at e1
        simp only [appF, appK] at hk
        obtain ⟨rfl, cs, hcl, hfr, hk1, hk2⟩ := hk
        rcases Nat.eq_zero_or_pos m with hm | hm
        · have hvs : vs = [] := List.eq_nil_of_length_eq_zero (by rw [hnl, hm, Nat.zero_mul])
          subst hvs
          subst hm
          have hr := run_append_nothing w t1 t2 o.type e i hut hi p n n (Nat.le_refl _) (a.eval y) hsrc'
          rw [e1] at hr
          exact wp_of_run (run_append_op ho ha hts hr) (same hx (by simp only [EV.val, e1]) (hk1 rfl))
        · obtain ⟨hby', hput⟩ := hk2 hm
          refine grow (oldE := cs.map .v) (oldV := cs) e1.symm (fun k r hkr => hkr) ?_ hcl (by simp) (fun e he => by obtain ⟨u, _, rfl⟩ := List.mem_map.1 he; trivial) (fun j e x hj hx => ?_) (by omega) (hby' (by omega)) (fun b cap hc => hput b cap hc (fun h => by omega))
          · cases p with
            | none =>
              have : cs = [] := by
                cases cs with
                | nil => rfl
                | cons u t => have := hfr 0 u rfl; simp [padd, Pcell] at this
              subst this
              exact run_firstCells_none _ _ _ _ _
            | some ad =>
              rw [hsz]
              exact run_firstCells_some w.drew ti.size n _ _ _ cs hcl (fun j u hj => by simpa using frow_cell h.wok.le hfr j u hj)
          · rw [List.getElem?_map, Option.map_eq_some_iff] at hj
            obtain ⟨u, hu, rfl⟩ := hj
            simp only [EV.val, Option.some.injEq] at hx
            subst hx
            exact hu
      · exact hk.elim
  · exact hk.elim

/-! ### Bytes read as a string -/
theorem strOfNums_bytes (bs : List UInt8) : strOfNums (bs.map fun b => (b.toNat : Int)) = mkB bs := by
  unfold strOfNums mkB
  congr 2
  rw [List.map_map]
  conv => rhs; rw [← List.map_id bs]
  apply List.map_congr_left
  intro b _
  simp
theorem str_wp (htb : TbOK P tb) {c : Ctx} {g : GEnv} {st : St} {a : Act} {w : World} (h : GSat c N g st a w) {o : Oper} {s t : TypeId} {x : Operand} (ho : o.op = .convert s t x) {K : GEnv → St → Prop} {Q : Exit → Act → World → Prop} {K' : Act → World → Prop}
    (hK : ∀ g' st' a' w', GSat c N g' st' a' w' → K g' st' → K' a' w') (hs : isByteSlice tb (tk tb s) = true) (ht : isStr (tk tb t) = true) (hk : strV st.F st.rs (fun bs => putV N [] o.dst (.v (S bs)) K g st) (opd st.rs g st.env [] x)) : o.wp P a w K' Q := by
  obtain ⟨e, hu, he⟩ : ∃ e, P.underlying s = some (.slice e) ∧ P.underlying e = some (.int .u8) := by
    unfold isByteSlice at hs
    split at hs
    · rename_i e h1
      split at hs
      · rename_i h2
        refine ⟨e, und_slice htb h1, ?_⟩
        obtain ⟨d, h3, h4⟩ := und_of_tk htb h2
        simp only [TK.fits] at h4
        rw [h3, h4]
      · cases hs
    · cases hs
  have hd : P.underlying t = some .string := by
    unfold isStr at ht
    split at ht
    · rename_i h1; exact und_str htb h1
    · cases ht
  have hF := fits_opd h (gA_nil a)
  have fin : ∀ bs : List UInt8, (convert s t (a.eval x)).run P w = .ok (S bs) w → putV N [] o.dst (.v (S bs)) K g st → o.wp P a w K' Q := fun bs hrun hput => by
    obtain ⟨g', st', h1, _, _, _, h2, _⟩ := putV_sat h (ch := []) (e := .v (S bs)) (v := S bs) trivial (fun _ => rfl) (fun _ => trivial) (chfree_nil _ _) hput
    refine wp_of_run ?_ (hK _ _ _ _ (h2 (gA_nil a)) h1)
    simp only [execOp, ho, run_bind, hrun, run_pure]
  unfold strV at hk
  split at hk
  · rename_i id off m cc hx
    have e1 := hF _ _ hx
    cases hr : lkR st.rs id with
    | none => simp [hr, srcR] at hk
    | some r =>
      simp only [EV.val, hr, Option.some.injEq] at e1
      obtain ⟨rb, cells, ty, cap⟩ := r
      cases rb with
      | none =>
        simp only [hr, srcR] at hk
        obtain ⟨rfl, bs, h1, h2⟩ := hk
        have : bs = [] := by cases bs with | nil => rfl | cons u l => simp at h1
        subst this
        refine fin [] ?_ h2
        rw [← e1]
        exact run_convert_bytes_nil w s e hu he 0 cc t hd
      | some b =>
        simp only [hr, srcR, Nat.mul_one] at hk
        obtain ⟨h1, bs, h2, h3⟩ := hk
        obtain ⟨vs, v1, v2, v3⟩ := stretch h hr rfl h1
        have hbl : bs.length = m := by
          have := congrArg List.length h2
          simp at this
          omega
        refine fin bs ?_ h3
        rw [← e1]
        have := run_convert_bytes_arg w s e hu he b off m cc (bs.map fun b => (b.toNat : Int)) (by simpa using hbl) (fun i hi => by
          have hlt : i < bs.length := by omega
          have e2 : ((cells.take (off + m)).drop off)[i]? = some (.v (.int .u8 (bs[i].toNat : Int))) := by
            rw [h2]; simp [hlt]
          have := v2 i _ (v3 i _ _ e2 rfl)
          rw [this]
          simp [List.getD, hlt]) t hd
        rw [strOfNums_bytes] at this
        exact this
  · rename_i p m cc hx
    have e1 := hF _ _ hx
    simp only [EV.val, Option.some.injEq] at e1
    obtain ⟨bs, h1, h2, h3⟩ := hk
    refine fin bs ?_ h3
    rw [← e1]
    cases p with
    | none =>
      have : bs = [] := by
        cases bs with
        | nil => rfl
        | cons u l => have := h2 0 _ rfl; simp [padd, Pcell] at this
      subst this
      simp only [List.length_nil] at h1
      subst h1
      exact run_convert_bytes_nil w s e hu he 0 cc t hd
    | some ad =>
      have hl : (loadCells ad m).run P w = .ok ((bs.map fun b => (b.toNat : Int)).map (Value.int .u8)).toArray w := by
        have := run_loadCells_list (P := P) w ad (bs.map fun b => Value.int .u8 (b.toNat : Int)) (frow_cell h.wok.le h2)
        rw [List.length_map, h1] at this
        rw [this, List.map_map]
        rfl
      rw [run_convert_bytes_string w s t e _ m cc hu he hd, run_bytesToString w ad m cc _ hl, foldl_push_bytes]
      have := strOfNums_bytes bs
      unfold strOfNums at this
      simp only [S, ← this]
      simp [ByteArray.empty, ByteArray.emptyWithCapacity]
      rfl
  · exact hk.elim

/-! ### A callee that works on the caller's memory -/
theorem WOK.ctx {c c' : Ctx} {F : Hp} {rs : RL} {w : World} (h : WOK c F rs w) (h1 : c'.wE = c.wE) (h2 : c'.F0 = c.F0) (h3 : c'.sz = c.sz) (h4 : c'.F1 = c.F1) : WOK c' F rs w where
  le := h.le
  own := h.own
  pres := by rw [h1]; exact h.pres
  new := by rw [h1]; exact h.new
  fnew := by rw [h1, h2]; exact h.fnew
  sz := by rw [h3]; exact h.sz
  tp := by rw [h1, h2, h4]; exact h.tp
theorem evs_allV {rs : RL} {ρ : Operand → Option EV} {ρ' : Operand → Value} (hρ : Fits rs ρ ρ') : ∀ {l : List Operand} {es : List EV}, evs ρ l = some es → allV rs es = some (l.map ρ')
  | [], es, h => by simp only [evs, Option.some.injEq] at h; subst h; rfl
  | o :: l, es, h => by
    simp only [evs] at h
    split at h
    · rename_i e es' he hes
      simp only [Option.some.injEq] at h
      subst h
      have := evs_allV hρ hes
      simp only [allV, hρ _ _ he, this, List.map_cons]
    · simp at h
theorem allV_append {rs : RL} : ∀ {l1 l2 : List EV} {x1 x2 : List Value}, allV rs l1 = some x1 → allV rs l2 = some x2 → allV rs (l1 ++ l2) = some (x1 ++ x2)
  | [], l2, x1, x2, h1, h2 => by simp only [allV, Option.some.injEq] at h1; subst h1; simpa using h2
  | e :: l1, l2, x1, x2, h1, h2 => by
    simp only [allV] at h1
    split at h1
    · rename_i x xs hx hxs
      simp only [Option.some.injEq] at h1
      subst h1
      have := allV_append hxs h2
      simp only [List.cons_append, allV, hx, this]
    · simp at h1
theorem allV_map_v {rs : RL} : ∀ (l : List Value), allV rs (l.map .v) = some l
  | [] => rfl
  | x :: l => by simp only [List.map_cons, allV, EV.val, allV_map_v l]
theorem val_succ {c : Ctx} {F : Hp} {rs : RL} {nx : Nat} (h : Hist c F rs nx) {e : EV} (he : e.lt c.nx0) {x : Value} (hx : e.val rs = some x) : e.val c.rs0 = some x := by
  cases e with
  | v y => exact hx
  | loc id o =>
    simp only [EV.val] at hx ⊢
    split at hx
    · rename_i r hr
      obtain ⟨r0, h1, h2⟩ := h.succ id r he hr
      rw [h1]
      simp only [h2]
      exact hx
    · simp at hx
  | row id o n c' =>
    simp only [EV.val] at hx ⊢
    split at hx
    · rename_i r hr
      obtain ⟨r0, h1, h2⟩ := h.succ id r he hr
      rw [h1]
      simp only [h2]
      exact hx
    · simp at hx
theorem in_wp {c : Ctx} {g : GEnv} {st : St} {a : Act} {w : World} (h : GSat c N g st a w) {o : Oper} {f : Operand} {args : Array Operand} {ts : Array TypeId} (ho : o.op = .call ⟨.value f, args, ts⟩) {K : GEnv → St → Prop} {Q : Exit → Act → World → Prop} {K' : Act → World → Prop}
    (hK : ∀ g' st' a' w', GSat c N g' st' a' w' → K g' st' → K' a' w') (hk : inGo P N o.dst K g st (opd st.rs g st.env [] f) (evs (opd st.rs g st.env []) args.toList)) : o.wp P a w K' Q := by
  have hF := fits_opd h (gA_nil a)
  obtain ⟨env, F, rs, nx⟩ := st
  unfold inGo at hk
  split at hk
  · rename_i env F rs nx n first captured es hst hf he
    simp only [St.mk.injEq] at hst
    obtain ⟨rfl, rfl, rfl, rfl⟩ := hst
    obtain ⟨hb, QQ, hc, hq⟩ := hk
    have e1 := hF _ _ hf
    simp only [EV.val, Option.some.injEq] at e1
    have e2 := evs_allV hF he
    have e3 := allV_append (allV_append (allV_map_v (rs := rs) first.toList) e2) (allV_map_v (rs := rs) captured.toList)
    have e4 : first ++ args.map a.eval ++ captured = (first.toList ++ args.toList.map a.eval ++ captured.toList).toArray := by
      apply Array.ext'
      simp
    unfold Oper.wp
    rw [run_call ho e1.symm hb, Oper.upon_enter, e4]
    refine (hc ⟨c.wE, c.F0, c.F1, rs, nx, c.sz⟩ w (h.wok.ctx rfl rfl rfl rfl) ⟨h.hist.sub, Nat.le_refl _, fun id r _ hr => ⟨r, hr, rfl⟩⟩ h.rids rfl rfl _ e3).mono fun e w' ⟨x, ev, F', rs', nx', he', hw', hh', hr', hlt, hv, hQ⟩ => ?_
    subst he'
    have hs : GSat c N g ⟨env, F', rs', nx'⟩ a w' := {
      size := h.size
      defers := h.defers
      wok := hw'.ctx rfl rfl rfl rfl
      hist := {
        sub := hh'.sub
        nxle := Nat.le_trans h.hist.nxle hh'.nxle
        succ := fun id r hid hr => by
          obtain ⟨r0, h1, h2⟩ := hh'.succ id r (Nat.lt_of_lt_of_le hid h.hist.nxle) hr
          obtain ⟨r1, h3, h4⟩ := h.hist.succ id r0 hid h1
          exact ⟨r1, h3, h4.trans h2⟩ }
      rids := hr'
      ids := fun n e he => (h.ids n e he).mono hh'.nxle
      env := fun n e x hg he hx => h.env n e x hg he (val_succ hh' (h.ids n e he) hx)
      gv := fun n ch e hg => by
        obtain ⟨h1, h2, h3, h4⟩ := h.gv n ch e hg
        exact ⟨fun hA => ⟨fun x hx => (h1 hA).1 x (val_succ hh' h3 hx), (h1 hA).2⟩, h2, h3.mono hh'.nxle, h4⟩ }
    have hput := hq ev F' rs' nx' trivial hh'.nxle hQ
    cases hd : o.dst with
    | none =>
      rw [hd] at hput
      exact hK _ _ _ _ hs hput
    | some d =>
      rw [hd] at hput
      obtain ⟨g', st', h1, _, _, _, h2, _⟩ := putV_sat hs (ch := []) (d := some d) (e := ev) (v := x) hlt (fun _ => hv) (fun _ => trivial) (chfree_nil _ _) hput
      exact hK _ _ _ _ (h2 (gA_nil a)) h1
  · exact hk.elim
theorem mem_wp (htb : TbOK P tb) {c : Ctx} {g : GEnv} {st : St} {a : Act} {w : World} (h : GSat c N g st a w) {o : Oper} {K : GEnv → St → Prop} {Q : Exit → Act → World → Prop} {K' : Act → World → Prop}
    (hK : ∀ g' st' a' w', GSat c N g' st' a' w' → K g' st' → K' a' w') (hk : memV P tb N o.dst K g st o.op) : o.wp P a w K' Q := by
  cases ho : o.op with
  | call cc =>
    rw [ho] at hk
    obtain ⟨callee, args, ts⟩ := cc
    cases callee with
    | value f => exact in_wp h ho hK hk
    | builtin b =>
      cases b with
      | append =>
        obtain ⟨x, y, t1, t2, h1, h2, h3⟩ := hk
        exact app_wp htb h ho hK h1 h2 h3
      | _ => exact hk.elim
    | invoke r m => exact hk.elim
  | convert s t x =>
    rw [ho] at hk
    exact str_wp htb h ho hK hk.1 hk.2.1 hk.2.2
  | _ => rw [ho] at hk; exact hk.elim
theorem sem_wp {c : Ctx} {g : GEnv} {st : St} {a : Act} {w : World} (h : GSat c N g st a w) {o : Oper} {K : GEnv → St → Prop} {Q : Exit → Act → World → Prop} {K' : Act → World → Prop}
    (hK : ∀ g' st' a' w', GSat c N g' st' a' w' → K g' st' → K' a' w') (hk : semV P N o.dst K g st o.op) : o.wp P a w K' Q := by
  obtain ⟨ι, ef, stf, hr, hputf⟩ := hk
  obtain ⟨i, v, w', h1, h2, h3⟩ := hr c a w o h rfl
  have hput := hputf i
  generalize ef i = e at hput h3
  generalize stf i = st' at hput h2 h3
  rcases h1 with h1 | ⟨h0, h1⟩
  rotate_left
  · unfold Oper.wp
    rw [h1]
    show K' (a.put o.dst undef) w'
    rw [h0] at hput ⊢
    exact hK _ _ _ _ h2 hput
  refine wp_of_run h1 ?_
  cases hd : o.dst with
  | none =>
    rw [hd] at hput
    exact hK _ _ _ _ h2 hput
  | some d =>
    rw [hd] at hput
    obtain ⟨g', st'', g1, _, _, _, g2, _⟩ := putV_sat h2 (ch := []) (d := some d) (e := e) (v := v) (lt_of_val (fun id r hr => (h2.rids id r hr).1) h3) (fun _ => h3) (fun _ => trivial) (chfree_nil _ _) hput
    exact hK _ _ _ _ (g2 (gA_nil a)) g1
end Go.TR
/-!
A small program logic of our own for the model. Part j: calls that hand memory over; lists of operations; code; a function's contract. Nothing here speaks of one program.
-/
namespace Go.TR
variable {P : Program} {tb : Tb} {N : Nat}

theorem lkR_append (l1 l2 : RL) (id : Nat) : lkR (l1 ++ l2) id = match lkR l1 id with | some r => some r | none => lkR l2 id := by
  induction l1 with
  | nil => rfl
  | cons p l1 ih =>
    obtain ⟨m, r⟩ := p
    rw [List.cons_append, lkR_cons, lkR_cons, ih]
    by_cases h : id = m <;> simp [h]
theorem lkR_shift (n : Nat) (new : RL) (id : Nat) : lkR (shiftR n new) id = if n ≤ id then (lkR new (id - n)).map (shiftB n) else none := by
  induction new with
  | nil => simp [shiftR, lkR]
  | cons p new ih =>
    obtain ⟨m, r⟩ := p
    have ih' : lkR (List.map (fun x => (n + x.1, shiftB n x.2)) new) id = if n ≤ id then (lkR new (id - n)).map (shiftB n) else none := ih
    simp only [shiftR, List.map_cons]
    rw [lkR_cons, ih', lkR_cons]
    by_cases h : id = n + m
    · subst h
      rw [if_pos rfl, if_pos (by omega), if_pos (by omega)]
      rfl
    · rw [if_neg h]
      by_cases h2 : n ≤ id
      · rw [if_pos h2, if_pos h2, if_neg (by omega)]
      · rw [if_neg h2, if_neg h2]
theorem lkR_new {nx : Nat} {new rs : RL} {id : Nat} (h : nx ≤ id) (hr : ∀ id r, lkR rs id = some r → id < nx) : lkR (shiftR nx new ++ rs) id = (lkR new (id - nx)).map (shiftB nx) := by
  rw [lkR_append, lkR_shift, if_pos h]
  cases hl : lkR new (id - nx) with
  | some r => rfl
  | none =>
    simp only [Option.map_none]
    cases hk : lkR rs id with
    | none => rfl
    | some r => have := hr id r hk; omega
theorem lkR_old {nx : Nat} {new rs : RL} {id : Nat} (h : id < nx) : lkR (shiftR nx new ++ rs) id = lkR rs id := by
  rw [lkR_append, lkR_shift, if_neg (by omega)]
theorem val_old {nx : Nat} {new rs : RL} {e : EV} (h : e.lt nx) : e.val (shiftR nx new ++ rs) = e.val rs := by
  cases e with
  | v x => rfl
  | loc id o => simp only [EV.lt] at h; simp only [EV.val, lkR_old h]
  | row id o n c => simp only [EV.lt] at h; simp only [EV.val, lkR_old h]
theorem val_new {nx : Nat} {new rs : RL} (hr : ∀ id r, lkR rs id = some r → id < nx) (e : EV) : (shiftE nx e).val (shiftR nx new ++ rs) = e.val new := by
  cases e with
  | v x => rfl
  | loc id o =>
    simp only [shiftE, EV.val, lkR_new (Nat.le_add_right nx id) hr, Nat.add_sub_cancel_left]
    cases lkR new id <;> rfl
  | row id o n c =>
    simp only [shiftE, EV.val, lkR_new (Nat.le_add_right nx id) hr, Nat.add_sub_cancel_left]
    cases lkR new id <;> rfl
theorem lt_shift {nx m : Nat} {e : EV} (h : e.lt m) : (shiftE nx e).lt (nx + m) := by
  cases e <;> simp only [shiftE, EV.lt] at * <;> omega

/-- The state behind a call that handed memory over. -/
theorem shiftB_at {n : Nat} {r : Blk} {b : Nat} (h : (shiftB n r).at b) : r.at b := by
  rcases h with h | ⟨h1, h0, h2⟩
  · exact .inl h
  · refine .inr ⟨h1, h0, ?_⟩
    simp only [shiftB, List.map_eq_singleton_iff] at h2
    obtain ⟨e, he, h3⟩ := h2
    rw [he]
    cases e with
    | v x => exact congrArg (fun e => [e]) h3
    | loc id o => cases h3
    | row id o n c => cases h3
theorem hand_sat {c : Ctx} {g : GEnv} {env : Env} {F F' : Hp} {rs new : RL} {nx m : Nat} {a : Act} {w w' : World} (h : GSat c N g ⟨env, F, rs, nx⟩ a w) (hsub : F.sub F') (hle : F'.le w') (hp : Pres [] w w') (hfn : FNew F F' w.heap.size)
    (hown : Owned F' new w') (hnb : ∀ id r b, lkR new id = some r → r.at b → w.heap.size ≤ b) (hm : ∀ id r, lkR new id = some r → id < m ∧ ∀ e ∈ r.cells, e.lt m) : GSat c N g ⟨env, F', shiftR nx new ++ rs, nx + m⟩ a w' := by
  have hrl : ∀ id r, lkR rs id = some r → id < nx := fun id r hr => (h.rids id r hr).1
  have cases' : ∀ id r, lkR (shiftR nx new ++ rs) id = some r → (id < nx ∧ lkR rs id = some r) ∨ (nx ≤ id ∧ ∃ r0, lkR new (id - nx) = some r0 ∧ r = shiftB nx r0) := fun id r hr => by
    by_cases hid : id < nx
    · rw [lkR_old hid] at hr; exact .inl ⟨hid, hr⟩
    · have hid' : nx ≤ id := by omega
      rw [lkR_new hid' hrl, Option.map_eq_some_iff] at hr
      obtain ⟨r0, h1, h2⟩ := hr
      exact .inr ⟨hid', r0, h1, h2.symm⟩
  have hw := h.wok.pres' hp
  exact {
    size := h.size
    defers := h.defers
    wok := {
      le := hle
      own := {
        own := fun id r hr => by
          rcases cases' id r hr with ⟨hid, hr'⟩ | ⟨hid, r0, hr0, rfl⟩
          · have h1 := hw.own.own id r hr'
            cases hb : r.blk with
            | none => rw [hb] at h1; exact h1
            | some b =>
              rw [hb] at h1
              obtain ⟨g1, g2, cur, g3, g4, g5⟩ := h1
              have hbl := h.wok.own.lt hr' hb
              refine ⟨?_, g2, cur, g3, g4, fun j ev x hj hx => g5 j ev x hj ?_⟩
              · show F' b = none
                cases hf : F' b with
                | none => rfl
                | some o =>
                  have g1' : F b = none := g1
                  rcases hfn b (by simp [hf]) with h' | h'
                  · rw [g1'] at h'; cases h'
                  · omega
              · rw [val_old ((h.rids id r hr').2 ev (List.mem_of_getElem? hj))] at hx
                exact hx
          · have h1 := hown.own (id - nx) r0 hr0
            simp only [shiftB]
            cases hb : r0.blk with
            | none => rw [hb] at h1; exact ⟨h1.1.elim (fun e => .inl (by rw [e]; rfl)) (fun ⟨e0, b, e⟩ => .inr ⟨e0, b, by rw [e]; rfl⟩), h1.2⟩
            | some b =>
              rw [hb] at h1
              obtain ⟨g1, g2, cur, g3, g4, g5⟩ := h1
              refine ⟨g1, by rw [List.length_map]; exact g2, cur, g3, g4, fun j ev x hj hx => ?_⟩
              rw [List.getElem?_map, Option.map_eq_some_iff] at hj
              obtain ⟨ev0, hj0, rfl⟩ := hj
              rw [val_new hrl] at hx
              exact g5 j ev0 x hj0 hx
        apart := fun i j r s b hi hj hb hs => by
          rcases cases' i r hi with ⟨hid, hr'⟩ | ⟨hid, r0, hr0, rfl⟩ <;> rcases cases' j s hj with ⟨hjd, hs'⟩ | ⟨hjd, s0, hs0, rfl⟩
          · exact h.wok.own.apart i j r s b hr' hs' hb hs
          · have h1 := h.wok.own.lt hr' hb
            have h2 := hnb _ s0 b hs0 (.inl hs)
            omega
          · have h1 := h.wok.own.lt hs' hs
            have h2 := hnb _ r0 b hr0 (.inl hb)
            omega
          · have := hown.apart _ _ r0 s0 b hr0 hs0 hb hs
            omega }
      pres := hw.pres
      new := fun id r b hr hb => by
        rcases cases' id r hr with ⟨hid, hr'⟩ | ⟨hid, r0, hr0, rfl⟩
        · exact h.wok.new id r b hr' hb
        · have h1 := hnb _ r0 b hr0 (shiftB_at hb)
          have h2 := h.wok.pres.size
          omega
      fnew := fun k hk => by
        rcases hfn k hk with h' | h'
        · exact h.wok.fnew k h'
        · have h2 := h.wok.pres.size
          right; omega
      sz := Nat.le_trans h.wok.sz hp.size
      tp := h.wok.tp }
    hist := {
      sub := h.hist.sub.trans hsub
      nxle := Nat.le_trans h.hist.nxle (Nat.le_add_right _ _)
      succ := fun id r hid hr => by
        have := h.hist.nxle
        rcases cases' id r hr with ⟨_, hr'⟩ | ⟨hge, _⟩
        · exact h.hist.succ id r hid hr'
        · simp only at this; omega }
    rids := fun id r hr => by
      rcases cases' id r hr with ⟨hid, hr'⟩ | ⟨hid, r0, hr0, rfl⟩
      · obtain ⟨h1, h2⟩ := h.rids id r hr'
        exact ⟨by simp only at h1 ⊢; omega, fun e he => (h2 e he).mono (Nat.le_add_right _ _)⟩
      · obtain ⟨h1, h2⟩ := hm _ r0 hr0
        refine ⟨by simp only; omega, fun e he => ?_⟩
        simp only [shiftB, List.mem_map] at he
        obtain ⟨e0, he0, rfl⟩ := he
        exact lt_shift (h2 e0 he0)
    ids := fun n e he => (h.ids n e he).mono (Nat.le_add_right _ _)
    env := fun n e x hg he hx => by
      rw [val_old (h.ids n e he)] at hx
      exact h.env n e x hg he hx
    gv := fun n ch e hg => by
      obtain ⟨h1, h2, h3, h4⟩ := h.gv n ch e hg
      refine ⟨fun hA => ⟨fun x hx => (h1 hA).1 x ?_, (h1 hA).2⟩, h2, h3.mono (Nat.le_add_right _ _), h4⟩
      rw [val_old h3] at hx
      exact hx }
theorem lt_of_val' {new : RL} {m : Nat} (hm : ∀ id r, lkR new id = some r → id < m ∧ ∀ e ∈ r.cells, e.lt m) {e : EV} {x : Value} (h : e.val new = some x) : e.lt m := by
  cases e with
  | v _ => trivial
  | loc id o =>
    simp only [EV.val] at h
    split at h
    · rename_i r hl; exact (hm _ _ hl).1
    · simp at h
  | row id o n c =>
    simp only [EV.val] at h
    split at h
    · rename_i r hl; exact (hm _ _ hl).1
    · simp at h
theorem callEff_wp {c : Ctx} {g : GEnv} {st : St} {a : Act} {w : World} (h : GSat c N g st a w) {o : Oper} {f : Operand} {args : Array Operand} {ts : Array TypeId} (ho : o.op = .call ⟨.value f, args, ts⟩)
    {n : FuncId} {first captured : Array Value} {xs : List Value} (hf : opd st.rs g st.env [] f = some (.v (.func (.func n) first captured))) (hx : vals st.rs (opd st.rs g st.env []) args.toList = some xs) (hb : bodied P n)
    {K : GEnv → St → Prop} {Q : Exit → Act → World → Prop} {K' : Act → World → Prop} (hK : ∀ g' st' a' w', GSat c N g' st' a' w' → K g' st' → K' a' w')
    (hk : callEff P N n (first.toList ++ xs ++ captured.toList) o.dst K g st) : o.wp P a w K' Q := by
  have hF := fits_opd h (gA_nil a)
  have e1 := hF _ _ hf
  simp only [EV.val, Option.some.injEq] at e1
  have e2 := vals_ok hF hx
  have e3 : first ++ args.map a.eval ++ captured = (first.toList ++ xs ++ captured.toList).toArray := by
    apply Array.ext'
    simp [← e2]
  clear hF e1
  have hf' : a.eval f = .func (.func n) first captured := by
    have := fits_opd h (gA_nil a) _ _ hf
    simp only [EV.val, Option.some.injEq] at this
    exact this.symm
  unfold Oper.wp
  rw [run_call ho hf' hb, Oper.upon_enter, e3]
  obtain ⟨st, h, QQ, hc, hq⟩ := hk c a w h
  refine (hc w h.wok.le).mono fun e w' ⟨x, F', new, he, hsub, hle, hp, hfn, hown, hnb, hQ⟩ => ?_
  subst he
  obtain ⟨m, ev, hm, hv, hput⟩ := hq x F' new hsub hQ
  obtain ⟨env, F, rs, nx⟩ := st
  have hs := hand_sat h hsub hle hp hfn hown hnb hm
  have hrl : ∀ id r, lkR rs id = some r → id < nx := fun id r hr => (h.rids id r hr).1
  obtain ⟨g', st', h1, _, _, _, h2, _⟩ := putV_sat hs (ch := []) (e := shiftE nx ev) (v := x) (lt_shift (lt_of_val' hm hv)) (fun _ => by rw [val_new hrl]; exact hv) (fun _ => trivial) (chfree_nil _ _) hput
  exact hK _ _ _ _ (h2 (gA_nil a)) h1

/-! ### Lists of operations, in the text's order -/
/-- An operation that is quiet whether or not the region draws. -/
theorem quiet_wp {c : Ctx} {g : GEnv} {st : St} {a : Act} {w : World} (h : GSat c N g st a w) {ch : Chain} {o : Oper} {e : EV} {v : Value} (hq : Quiet P st ch a o e v) (hA : gA ch a) {K' : Act → World → Prop} {Q : Exit → Act → World → Prop}
    (hk : ∀ w', C c st w' → K' (a.put o.dst v) w') : o.wp P a w K' Q :=
  Oper.wp_of_quiet (C := C c st) (K := fun a' => a' = a.put o.dst v) h.wok (fun a' w' hw' e => by subst e; exact hk w' hw') ⟨v, hq.run hA _ (rd_wok c st), rfl⟩

/-- An operation that no open guard holds back, in the text's order. -/
theorem op_plain (htb : TbOK P tb) {c : Ctx} {g : GEnv} {st : St} {a : Act} {w : World} (h : GSat c N g st a w) {ch : Chain} (hA : gA ch a) (hgp : gA ch a → gP ch) (hfree : ChFree g st.env ch) {o : Oper} {K : GEnv → St → Prop} {Q : Exit → Act → World → Prop} {K' : Act → World → Prop}
    (ih : ∀ g' st' a' w', GSat c N g' st' a' w' → K g' st' → K' a' w') (hop : opV P tb N false ch o.dst K g st o.op) : o.wp P a w K' Q := by
    have quiet : opV P tb N true ch o.dst K g st o.op → o.wp P a w K' Q := fun hop' => by
      obtain ⟨e, v, hq, hp⟩ := quiet_op htb h hgp hop'
      obtain ⟨g', st', hKK, hF, hrs, _, h1, h2⟩ := putV_sat h hq.lt hq.val hgp hfree hp
      refine quiet_wp h hq hA fun w' hw' => ?_
      refine ih g' st' _ w' ((h1 hA).world ?_) hKK
      unfold C at hw' ⊢
      rw [hF, hrs]; exact hw'
    have eff : ch = [] → o.wp P a w K' Q → o.wp P a w K' Q := fun _ hw => hw
    cases ho : o.op with
    | call cc =>
      obtain ⟨callee, args, ts⟩ := cc
      cases callee with
      | value f =>
        cases ch with
        | cons c0 ch =>
          refine quiet ?_
          rw [ho] at hop ⊢
          simp only [opV] at hop ⊢
          unfold callGo at hop ⊢
          split at hop
          · rename_i hf hx
            simp only [callV] at hop ⊢
            exact hop
          · exact hop.elim
        | nil =>
          refine eff rfl ?_
          rw [ho] at hop
          simp only [opV] at hop
          unfold callGo at hop
          split at hop
          · rename_i n first captured xs hf hx
            simp only [callV] at hop
            exact callEff_wp h ho hf hx hop.1 ih hop.2
          · exact hop.elim
      | builtin b => exact quiet (by rw [ho] at hop ⊢; exact hop)
      | invoke r m => rw [ho] at hop; exact hop.elim
    | alloc t =>
      rw [ho] at hop
      simp only [opV] at hop
      exact eff hop.2.1 (alloc_wp htb h ho ih hop.2.2)
    | box t x =>
      rw [ho] at hop
      simp only [opV] at hop
      obtain ⟨_, rfl, hop⟩ := hop
      exact eff rfl (box_wp h ho ih hop)
    | buildSlice t n ps =>
      rw [ho] at hop
      simp only [opV] at hop
      obtain ⟨_, rfl, hop⟩ := hop
      exact eff rfl (bslice_wp htb h ho ih hop)
    | store t x y =>
      rw [ho] at hop
      simp only [opV] at hop
      obtain ⟨_, rfl, hd, hop⟩ := hop
      exact eff rfl (store_wp htb h ho hd ih hop)
    | pick x y z => exact quiet (by rw [ho] at hop ⊢; cases x <;> exact hop)
    | load t x => exact quiet (by rw [ho] at hop ⊢; exact hop)
    | move x => exact quiet (by rw [ho] at hop ⊢; exact hop)
    | assign x => exact quiet (by rw [ho] at hop ⊢; exact hop)
    | build _ _ => exact quiet (by rw [ho] at hop ⊢; exact hop)
    | nilCheck _ => exact quiet (by rw [ho] at hop ⊢; exact hop)
    | binOp _ _ _ _ _ => exact quiet (by rw [ho] at hop ⊢; exact hop)
    | unOp _ _ _ => exact quiet (by rw [ho] at hop ⊢; exact hop)
    | convert _ _ _ => exact quiet (by rw [ho] at hop ⊢; exact hop)
    | makeFunc _ _ _ => exact quiet (by rw [ho] at hop ⊢; exact hop)
    | slice _ _ _ _ _ => exact quiet (by rw [ho] at hop ⊢; exact hop)
    | fieldAddr _ _ _ => exact quiet (by rw [ho] at hop ⊢; exact hop)
    | field _ _ _ => exact quiet (by rw [ho] at hop ⊢; exact hop)
    | indexAddr _ _ _ => exact quiet (by rw [ho] at hop ⊢; exact hop)
    | index _ _ _ => exact quiet (by rw [ho] at hop ⊢; exact hop)
    | extract _ _ => exact quiet (by rw [ho] at hop ⊢; exact hop)
    | _ => rw [ho] at hop; exact hop.elim

theorem opX_wp (htb : TbOK P tb) {c : Ctx} {g : GEnv} {st : St} {a : Act} {w : World} (h : GSat c N g st a w) {o : Oper} {K : GEnv → St → Prop} {Q : Exit → Act → World → Prop} {K' : Act → World → Prop}
    (hK : ∀ g' st' a' w', GSat c N g' st' a' w' → K g' st' → K' a' w') (hk : opX P tb N false o.dst K g st o.op) : o.wp P a w K' Q := by
  rcases hk with hk | ⟨_, hk⟩ | ⟨_, hk⟩
  · exact op_plain htb h (gA_nil a) (fun _ => trivial) (chfree_nil _ _) hK hk
  · exact mem_wp htb h hK hk
  · obtain ⟨st', h1, hk | hk | hk⟩ := hk c a w h
    · exact op_plain htb h1 (gA_nil a) (fun _ => trivial) (chfree_nil _ _) hK hk
    · exact mem_wp htb h1 hK hk
    · exact sem_wp h1 hK hk
/-- One operation of a region in the text's order. -/
theorem plain_step (htb : TbOK P tb) {c : Ctx} {g : GEnv} {st : St} {a : Act} {w : World} (h : GSat c N g st a w) {ops : Array Oper} {o : Oper} {K : GEnv → St → Prop} {Q : Exit → Act → World → Prop} {K' : Act → World → Prop}
    (hK : ∀ g' st' a' w', GSat c N g' st' a' w' → K g' st' → K' a' w') (hk : stepV P tb N false ops.toList o.op o.dst K g st o.guard) :
    (Region.wanted o (yielded ops a.tmps) = true → o.wp P a w K' Q) ∧ (¬ Region.wanted o (yielded ops a.tmps) = true → K' (a.put o.dst undef) w) := by
  cases hg : o.guard with
  | none =>
    rw [hg] at hk
    have hw : Region.wanted o (yielded ops a.tmps) = true := by simp only [Region.wanted, hg]
    exact ⟨fun _ => opX_wp htb h hK hk, fun hn => absurd hw hn⟩
  | some jw =>
    obtain ⟨j, want⟩ := jw
    rw [hg] at hk
    rcases hk with hk | hk
    · obtain ⟨ch, hG, h2, h3⟩ := guarded_some h hg hk
      refine ⟨fun hw => op_plain htb h (hG.wanted.1 hw) hG.gp hG.free hK h2, fun hn => ?_⟩
      have hA : ¬ gA ch a := fun hA => hn (hG.wanted.2 hA)
      -- what is guarded is quiet
      have quiet : opV P tb N true ch o.dst K g st o.op := by
        cases ho : o.op with
        | call cc =>
          obtain ⟨callee, args, ts⟩ := cc
          cases callee with
          | value f =>
            cases ch with
            | nil => exact absurd rfl h3
            | cons c0 ch =>
              rw [ho] at h2
              simp only [opV] at h2 ⊢
              unfold callGo at h2 ⊢
              split at h2
              · simp only [callV] at h2 ⊢
                exact h2
              · exact h2.elim
          | builtin b => rw [ho] at h2; exact h2
          | invoke r m => rw [ho] at h2; exact h2.elim
        | alloc t => rw [ho] at h2; simp only [opV] at h2; exact absurd h2.2.1 h3
        | box t x => rw [ho] at h2; simp only [opV] at h2; exact absurd h2.2.1 h3
        | buildSlice t n ps => rw [ho] at h2; simp only [opV] at h2; exact absurd h2.2.1 h3
        | store t x y => rw [ho] at h2; simp only [opV] at h2; exact absurd h2.2.1 h3
        | pick x y z => rw [ho] at h2; cases x <;> exact h2
        | _ => rw [ho] at h2; exact h2
      obtain ⟨e, v, hq, hp⟩ := quiet_op htb h hG.gp quiet
      obtain ⟨g', st', hKK, hF, hrs, _, h1, h4⟩ := putV_sat h hq.lt hq.val hG.gp hG.free hp
      exact hK _ _ _ _ (h4 hA) hKK
    · rcases guarded_known h hg hk with ⟨hw, hk⟩ | ⟨hw, hk⟩
      · exact ⟨fun _ => opX_wp htb h hK hk, fun hn => absurd hw hn⟩
      · obtain ⟨g', st', h1, _, _, _, h2⟩ := skip_sat h hk
        exact ⟨fun hn => absurd hn hw, fun _ => hK _ _ _ _ h2 h1⟩
theorem ops_plain (htb : TbOK P tb) {c : Ctx} {ops : Array Oper} {K : GEnv → St → Prop} {Q : Exit → Act → World → Prop} (hQ : ∀ g st a w, GSat c N g st a w → K g st → Q .normal a w) : ∀ (l : List Oper) (g : GEnv) (st : St) (a : Act) (w : World), GSat c N g st a w →
    vcOps P tb N false ops.toList l K g st → wpList P ops Q l a w
  | [], g, st, a, w, h, hk => hQ g st a w h hk
  | o :: l, g, st, a, w, h, hk => by
    have hs := plain_step htb (ops := ops) (o := o) (Q := Q) (K' := wpList P ops Q l) h (fun g' st' a' w' h1 h2 => ops_plain htb hQ l g' st' a' w' h1 h2) hk
    unfold wpList
    split
    · rename_i hw
      exact .inl (hs.1 hw)
    · rename_i hw
      exact hs.2 hw
end Go.TR
/-!
A small program logic of our own for the model. Part m: regions that draw an order and whose operations make memory: an operation that leaves memory as it is may be taken first. Nothing here speaks of one program.
-/
namespace Go.TR
section
variable {P : Program} {ops : Array Oper} {md : Region.Mode} {R : Act → World → Prop}

/-- Only the ordinary way out. -/
def Qn (R : Act → World → Prop) : Exit → Act → World → Prop := fun e a w => e = .normal ∧ R a w
theorem Qn.out : ¬ LetsOut (Qn R) := fun h => by
  have := h
  unfold LetsOut at this
  simp [Qn] at this

/-- Every order. S: what may be leant on from here on; T: the worlds that fit what is known behind an operation. -/
def wpAnyT (P : Program) (md : Region.Mode) (ops : Array Oper) (R : Act → World → Prop) : Nat → Array Bool → (World → Prop) → Act → World → Prop
  | 0, done, _, a, w => Region.ready md ops done = [] ∧ R a w
  | f + 1, done, S, a, w => (Region.ready md ops done = [] → R a w) ∧
      ∀ i ∈ Region.ready md ops done, wpOp P ops (Qn R) i (fun a' w' => ∃ S' T' : World → Prop, (∀ x, S' x → S x) ∧ (∀ x, T' x → S' x) ∧ (∀ x y, T' x → Pres [] x y → T' y) ∧ T' w' ∧ ∀ x, T' x → wpAnyT P md ops R f (done.setIfInBounds i true) S' a' x) a w

theorem wp_exits {o : Oper} {a : Act} {w : World} {K : Act → World → Prop} {Q : Exit → Act → World → Prop} (h : o.wp P a w K (Qn R)) : o.wp P a w K Q := by
  unfold Oper.wp at *
  generalize (execOp a.eval o).run P w = r at *
  cases r with
  | ok n w' =>
    cases n <;> simp only [Oper.upon] at h ⊢ <;>
      first
        | exact h
        | exact Calls.mono h (fun e w'' he => by
            cases e
            · exact he
            · exact absurd he.1 (by simp)
            · exact absurd he Qn.out)
  | halt x w' => cases x <;> simp only [Oper.upon] at h ⊢ <;> first | exact h | exact absurd h.1 (by simp)

theorem wpAnyT.any {Q : Exit → Act → World → Prop} (hQ : ∀ a w, R a w → Q .normal a w) : ∀ (f : Nat) (done : Array Bool) (S : World → Prop) (a : Act) (w : World), wpAnyT P md ops R f done S a w → wpAny P md ops Q f done a w := by
  intro f
  induction f with
  | zero => intro done S a w h; exact ⟨h.1, hQ _ _ h.2⟩
  | succ f ih =>
    intro done S a w h
    refine ⟨fun h0 => hQ _ _ (h.1 h0), fun i hi => ?_⟩
    have h1 := h.2 i hi
    have go : ∀ {a' w'}, (∃ S' T' : World → Prop, (∀ x, S' x → S x) ∧ (∀ x, T' x → S' x) ∧ (∀ x y, T' x → Pres [] x y → T' y) ∧ T' w' ∧ ∀ x, T' x → wpAnyT P md ops R f (done.setIfInBounds i true) S' a' x) → wpAny P md ops Q f (done.setIfInBounds i true) a' w' := fun {a' w'} ⟨S', T', _, _, _, h4, h5⟩ => ih _ _ _ _ (h5 _ h4)
    unfold wpOp at h1 ⊢
    split
    · rename_i ho
      rw [ho] at h1
      exact go h1
    · rename_i o ho
      rw [ho] at h1
      simp only at h1
      split
      · rename_i hw
        rw [if_pos hw] at h1
        rcases h1 with h1 | h1
        · exact .inl (Oper.wp_mono (fun a' w' h' => go h') (wp_exits h1))
        · exact absurd h1.2 Qn.out
      · rename_i hw
        rw [if_neg hw] at h1
        exact go h1

/-- Wherever S holds the operation gives v, and turns no old block; or it is not wanted. -/
def YieldsT (P : Program) (ops : Array Oper) (S : World → Prop) (o : Oper) (v : Value) (a : Act) : Prop :=
  if Region.wanted o (yielded ops a.tmps) then ∀ w, S w → o.quietAt P a (Pres [] w) w v else v = undef
theorem quietAt_same {o : Oper} {v : Value} {a a' : Act} {C : World → Prop} {w : World} (h : o.quietAt P a C w v) (he : execOp a'.eval o = execOp a.eval o) : o.quietAt P a' C w v := by
  unfold Oper.quietAt at *
  rw [he]
  exact h
theorem quietAt_mono {o : Oper} {v : Value} {a : Act} {C C' : World → Prop} {w : World} (h : o.quietAt P a C w v) (hC : ∀ x, C x → C' x) : o.quietAt P a C' w v := by
  unfold Oper.quietAt at *
  generalize (execOp a.eval o).run P w = r at *
  unfold Oper.quietUpon at *
  split at h
  all_goals first
    | exact h
    | exact ⟨h.1, h.2.mono fun e w2 he => ⟨he.1, hC _ he.2⟩⟩
theorem YieldsT.of_same {S : World → Prop} {o : Oper} {v : Value} {a a' : Act} (hy : YieldsT P ops S o v a) (he : execOp a'.eval o = execOp a.eval o) (hw : Region.wanted o (yielded ops a'.tmps) = Region.wanted o (yielded ops a.tmps)) : YieldsT P ops S o v a' := by
  unfold YieldsT at *
  rw [hw]
  split
  · rename_i h
    rw [if_pos h] at hy
    exact fun w hs => quietAt_same (hy w hs) he
  · rename_i h
    rw [if_neg h] at hy
    exact hy
theorem YieldsT.mono {S S' : World → Prop} {o : Oper} {v : Value} {a : Act} (hy : YieldsT P ops S o v a) (h : ∀ x, S' x → S x) : YieldsT P ops S' o v a := by
  unfold YieldsT at *
  split
  · rename_i hw
    rw [if_pos hw] at hy
    exact fun w hs => hy w (h w hs)
  · rename_i hw
    rw [if_neg hw] at hy
    exact hy

theorem wp_put {oi oj : Oper} {v : Value} {a : Act} {w : World} {K : Act → World → Prop} (he : execOp (a.put oi.dst v).eval oj = execOp a.eval oj) (hd : ∀ (b : Act) (u : Value), (b.put oi.dst v).put oj.dst u = (b.put oj.dst u).put oi.dst v)
    (h : oj.wp P (a.put oi.dst v) w K (Qn R)) : oj.wp P a w (fun a' w' => (∃ d u, a' = ({ a with defers := d } : Act).put oj.dst u) ∧ K (a'.put oi.dst v) w') (Qn R) := by
  unfold Oper.wp at *
  rw [he] at h
  generalize (execOp a.eval oj).run P w = r at *
  cases r with
  | ok n w' =>
    cases n with
    | value u => exact ⟨⟨a.defers, u, rfl⟩, by rw [← hd]; exact h⟩
    | skip => exact ⟨⟨a.defers, undef, rfl⟩, by rw [← hd]; exact h⟩
    | defer d =>
      simp only [Oper.upon] at h ⊢
      refine ⟨⟨d :: a.defers, undef, rfl⟩, ?_⟩
      rw [← hd]
      have e : ({ a.put oi.dst v with defers := d :: (a.put oi.dst v).defers } : Act) = ({ a with defers := d :: a.defers } : Act).put oi.dst v := by cases oi.dst <;> rfl
      rw [e] at h
      exact h
    | enter f args =>
      simp only [Oper.upon] at h ⊢
      exact Calls.mono h (fun e w'' he => by
            cases e
            · exact ⟨⟨a.defers, _, rfl⟩, by rw [← hd]; exact he⟩
            · exact absurd he.1 (by simp)
            · exact absurd he Qn.out)
    | row r args =>
      simp only [Oper.upon] at h ⊢
      exact Rows.mono h (fun u w'' he => ⟨⟨a.defers, u, rfl⟩, by rw [← hd]; exact he⟩)
    | _ => simp only [Oper.upon] at h
  | halt x w' => cases x <;> simp only [Oper.upon] at h ⊢ <;> first | exact h.elim | exact absurd h.1 (by simp)

/-- What may come first may be taken first. -/
theorem wpAnyT_first {i : Nat} {oi : Oper} {v : Value} (hi : ops[i]? = some oi) (hsel : ∀ (j : Nat) (o : Oper) cs b, ops[j]? = some o → o.op ≠ .select cs b) :
    ∀ (f : Nat) (done : Array Bool) (S T : World → Prop) (a : Act), (∀ x, T x → S x) → (∀ x y, T x → Pres [] x y → T y) →
      (∀ j oj, ops[j]? = some oj → j ≠ i → done.getD j true = false → (∀ e ∈ oj.after, Region.binds md e = true → e.on ≠ i) → oi.apart ops oj = true) →
      i ∈ Region.ready md ops done → YieldsT P ops S oi v a → (∀ x, T x → wpAnyT P md ops R f (done.setIfInBounds i true) S (a.put oi.dst v) x) → ∀ w, T w → wpAnyT P md ops R (f + 1) done S a w := by
  have self : ∀ (f : Nat) (done : Array Bool) (S T : World → Prop) (a : Act), (∀ x, T x → S x) → (∀ x y, T x → Pres [] x y → T y) → YieldsT P ops S oi v a → (∀ x, T x → wpAnyT P md ops R f (done.setIfInBounds i true) S (a.put oi.dst v) x) → ∀ w, T w →
      wpOp P ops (Qn R) i (fun a' w' => ∃ S' T' : World → Prop, (∀ x, S' x → S x) ∧ (∀ x, T' x → S' x) ∧ (∀ x y, T' x → Pres [] x y → T' y) ∧ T' w' ∧ ∀ x, T' x → wpAnyT P md ops R f (done.setIfInBounds i true) S' a' x) a w := fun f done S T a hTS hTP hy H w hT => by
    unfold wpOp
    simp only [hi]
    unfold YieldsT at hy
    split
    · rename_i hw
      rw [if_pos hw] at hy
      left
      exact Oper.wp_of_quiet (C := Pres [] w) (K := fun a' => a' = a.put oi.dst v) (Pres.refl [] w) (fun a' w' hw' e => by subst e; exact ⟨S, T, fun _ h => h, hTS, hTP, hTP _ _ hT hw', H⟩) ⟨v, fun x hx => quietAt_mono (hy x (hTS _ (hTP _ _ hT hx))) (fun y hy => hx.trans hy), rfl⟩
    · rename_i hw
      rw [if_neg hw] at hy
      subst hy
      exact ⟨S, T, fun _ h => h, hTS, hTP, hT, H⟩
  intro f
  induction f with
  | zero =>
    intro done S T a hTS hTP _ hr hy H w hT
    refine ⟨fun h => (by rw [h] at hr; cases hr), fun j hj => ?_⟩
    by_cases hji : j = i
    · subst hji; exact self 0 done S T a hTS hTP hy H w hT
    · have := ready_mono hj hji
      rw [(H w hT).1] at this
      cases this
  | succ f ih =>
    intro done S T a hTS hTP hfree hr hy H w hT
    have hun := (mem_ready.1 hr).1
    refine ⟨fun h => (by rw [h] at hr; cases hr), fun j hj => ?_⟩
    by_cases hji : j = i
    · subst hji; exact self (f + 1) done S T a hTS hTP hy H w hT
    · obtain ⟨hjun, oj, hoj, hall⟩ := mem_ready.1 hj
      have hnot : ∀ e ∈ oj.after, Region.binds md e = true → e.on ≠ i := fun e he hb heq => by
        have h1 := hall e he hb
        rw [heq, getD_both hun] at h1
        cases h1
      obtain ⟨h1, h2, h3⟩ := Oper.apart_spec (hfree j oj hoj hji hjun hnot)
      have hsi : ∀ cs b, oi.op ≠ .select cs b := fun cs b => hsel i oi cs b hi
      have hsj : ∀ cs b, oj.op ≠ .select cs b := fun cs b => hsel j oj cs b hoj
      have keep : ∀ (a : Act), YieldsT P ops S oi v a → ∀ u, YieldsT P ops S oi v (a.put oj.dst u) := fun a hy u =>
        hy.of_same (execOp_put oi hsi a oj.dst u h3) (wanted_put oi a oj.dst u h3)
      have keepd : ∀ (a : Act) d, YieldsT P ops S oi v a → YieldsT P ops S oi v { a with defers := d } := fun a d hy => hy
      have step : ∀ a' w', YieldsT P ops S oi v a' → (∃ S' T' : World → Prop, (∀ x, S' x → S x) ∧ (∀ x, T' x → S' x) ∧ (∀ x y, T' x → Pres [] x y → T' y) ∧ T' w' ∧ ∀ x, T' x → wpAnyT P md ops R f ((done.setIfInBounds i true).setIfInBounds j true) S' (a'.put oi.dst v) x) →
          ∃ S' T' : World → Prop, (∀ x, S' x → S x) ∧ (∀ x, T' x → S' x) ∧ (∀ x y, T' x → Pres [] x y → T' y) ∧ T' w' ∧ ∀ x, T' x → wpAnyT P md ops R (f + 1) (done.setIfInBounds j true) S' a' x := fun a' w' hy' ⟨S', T', k1, k2, k3, k4, k5⟩ => by
        refine ⟨S', T', k1, k2, k3, k4, ih (done.setIfInBounds j true) S' T' a' k2 k3 (fun k ok hk hki hu hno => hfree k ok hk hki ?_ hno) (ready_mono hr (Ne.symm hji)) (hy'.mono k1) (fun x hx => ?_)⟩
        · by_cases hjk : j = k
          · subst hjk; exact hjun
          · rw [getD_set_ne true hjk] at hu; exact hu
        · rw [Array.setIfInBounds_comm _ _ hji]
          exact k5 x hx
      have h0 := (H w hT).2 j (ready_mono hj hji)
      unfold wpOp at h0 ⊢
      simp only [hoj] at h0 ⊢
      rw [wanted_put oj a oi.dst v h1] at h0
      split
      · rename_i hw
        rw [if_pos hw] at h0
        rcases h0 with h0 | h0
        · left
          refine Oper.wp_mono (fun a' w' h' => ?_) (wp_put (execOp_put oj hsj a oi.dst v h1) (fun b u => Act.put_comm b v u h2) h0)
          obtain ⟨⟨d, u, rfl⟩, h''⟩ := h'
          exact step _ _ (keep _ (keepd _ _ hy) u) h''
        · exact absurd h0.2 Qn.out
      · rename_i hw
        rw [if_neg hw] at h0
        refine step _ _ (keep _ hy _) ?_
        rw [← Act.put_comm a v undef h2]
        exact h0
end

/-! ### The evaluator's schedules -/
section
variable {P : Program} {tb : Tb} {N : Nat}
def msk (kept : List Nat) (st : St) : St := ⟨st.env, st.F, mask kept st.rs, st.nx⟩
theorem lkR_mask (kept : List Nat) (rs : RL) (id : Nat) : lkR (mask kept rs) id = (lkR rs id).map fun r => if kept.contains id then r else ⟨r.blk, [], r.ty, r.cap⟩ := by
  induction rs with
  | nil => rfl
  | cons p rs ih =>
    obtain ⟨m, ⟨b, cells, ty, cap⟩⟩ := p
    simp only [mask]
    split
    · rename_i hc
      rw [lkR_cons, lkR_cons, ih]
      by_cases h : id = m
      · subst h; simp only [if_true, Option.map_some, hc]
      · simp only [if_neg h]
    · rename_i hc
      rw [lkR_cons, lkR_cons, ih]
      by_cases h : id = m
      · subst h; simp only [if_true, Option.map_some, hc]; rfl
      · simp only [if_neg h]
theorem val_mask (kept : List Nat) (rs : RL) (e : EV) : e.val (mask kept rs) = e.val rs := by
  cases e with
  | v x => rfl
  | loc id o =>
    simp only [EV.val, lkR_mask]
    cases lkR rs id with
    | none => rfl
    | some r => simp only [Option.map_some]; cases kept.contains id <;> rfl
  | row id o n c =>
    simp only [EV.val, lkR_mask]
    cases lkR rs id with
    | none => rfl
    | some r => simp only [Option.map_some]; cases kept.contains id <;> rfl
theorem mask_sub {kept : List Nat} {rs : RL} {id : Nat} {r : Blk} (h : lkR (mask kept rs) id = some r) : ∃ r0, lkR rs id = some r0 ∧ r.blk = r0.blk ∧ r.ty = r0.ty ∧ r.cap = r0.cap ∧ (r.cells = r0.cells ∨ r.cells = []) ∧ (r.cells ≠ [] → id ∈ kept ∧ r = r0) := by
  rw [lkR_mask, Option.map_eq_some_iff] at h
  obtain ⟨r0, h1, h2⟩ := h
  refine ⟨r0, h1, ?_⟩
  subst h2
  split
  · rename_i hc; exact ⟨rfl, rfl, rfl, .inl rfl, fun _ => ⟨by simpa using hc, rfl⟩⟩
  · exact ⟨rfl, rfl, rfl, .inr rfl, fun h => absurd rfl h⟩
theorem mask_sat {c : Ctx} {g : GEnv} {st : St} {a : Act} {w : World} (h : GSat c N g st a w) (kept : List Nat) : GSat c N g (msk kept st) a w where
  size := h.size
  defers := h.defers
  wok := {
    le := h.wok.le
    own := {
      own := fun id r hr => by
        obtain ⟨r0, h1, h2, h3, h4, h5, _⟩ := mask_sub hr
        have hv := fun e => val_mask kept st.rs e
        have h6 := h.wok.own.own id r0 h1
        obtain ⟨rb, rc, rt, rcap⟩ := r
        simp only at h2 h3 h4 h5
        subst h2 h3 h4
        cases hb : r0.blk with
        | none =>
          rw [hb] at h6
          rcases h5 with rfl | rfl
          · exact h6
          · exact ⟨.inl rfl, h6.2⟩
        | some b =>
          rw [hb] at h6
          obtain ⟨g1, g2, cur, g3, g4, g5⟩ := h6
          rcases h5 with rfl | rfl
          · exact ⟨g1, g2, cur, g3, g4, fun j ev x hj hx => g5 j ev x hj (by rw [← hv ev]; exact hx)⟩
          · exact ⟨g1, Nat.zero_le _, cur, g3, g4, fun j ev x hj => by simp at hj⟩
      apart := fun i j r s b hi hj hr hs => by
        obtain ⟨r0, h1, h2, _⟩ := mask_sub hi
        obtain ⟨s0, h3, h4, _⟩ := mask_sub hj
        exact h.wok.own.apart i j r0 s0 b h1 h3 (h2 ▸ hr) (h4 ▸ hs) }
    pres := h.wok.pres
    new := fun id r b hr hb => by
      obtain ⟨r0, h1, h2, h3, h4, h5⟩ := mask_sub hr
      refine h.wok.new id r0 b h1 ?_
      rcases hb with hb | ⟨hb, hb0, hb1⟩
      · exact .inl (h2 ▸ hb)
      · rcases h5 with h5 | h5
        · exact .inr ⟨h2 ▸ hb, h3 ▸ hb0, h5 ▸ hb1⟩
        · rw [h5] at hb1; cases hb1
    fnew := h.wok.fnew
    sz := h.wok.sz
    tp := h.wok.tp }
  hist := {
    sub := h.hist.sub
    nxle := h.hist.nxle
    succ := fun id r hid hr => by
      obtain ⟨r0, h1, h2, _⟩ := mask_sub hr
      obtain ⟨r1, h3, h4⟩ := h.hist.succ id r0 hid h1
      exact ⟨r1, h3, h4.trans h2.symm⟩ }
  rids := fun id r hr => by
    obtain ⟨r0, h1, _, _, _, h5, _⟩ := mask_sub hr
    obtain ⟨h6, h7⟩ := h.rids id r0 h1
    refine ⟨h6, fun e he => ?_⟩
    rcases h5 with h5 | h5
    · rw [h5] at he; exact h7 e he
    · rw [h5] at he; cases he
  ids := h.ids
  env := fun n e x hg he hx => h.env n e x hg he (by rw [← val_mask kept]; exact hx)
  gv := fun n ch e hg => by
    obtain ⟨h1, h2, h3, h4⟩ := h.gv n ch e hg
    exact ⟨fun hA => ⟨fun x hx => (h1 hA).1 x (by rw [← val_mask kept]; exact hx), (h1 hA).2⟩, h2, h3, h4⟩
/-- Back from the masked state. -/
theorem back_sat {c : Ctx} {g g' : GEnv} {env env' : Env} {F : Hp} {rs : RL} {nx : Nat} {kept : List Nat} {a a' : Act} {w : World} (h : GSat c N g ⟨env, F, rs, nx⟩ a w) (h' : GSat c N g' ⟨env', F, mask kept rs, nx⟩ a' w) : GSat c N g' ⟨env', F, rs, nx⟩ a' w where
  size := h'.size
  defers := h'.defers
  wok := h.wok
  hist := h.hist
  rids := h.rids
  ids := h'.ids
  env := fun n e x hg he hx => h'.env n e x hg he (by rw [val_mask]; exact hx)
  gv := fun n ch e hg => by
    obtain ⟨h1, h2, h3, h4⟩ := h'.gv n ch e hg
    exact ⟨fun hA => ⟨fun x hx => (h1 hA).1 x (by rw [val_mask]; exact hx), (h1 hA).2⟩, h2, h3, h4⟩
theorem sameV_mem {rs rs' : RL} : ∀ {l : List EV}, sameV rs rs' l → ∀ e ∈ l, e.val rs' = e.val rs
  | [], _, e, he => by cases he
  | x :: l, h, e, he => by
    rcases List.mem_cons.1 he with rfl | he
    · exact h.1
    · exact sameV_mem h.2 e he
theorem keptOK_mem {rs rs' : RL} : ∀ {kept : List Nat}, keptOK rs rs' kept → ∀ id ∈ kept, ∀ r, lkR rs id = some r → lkR rs' id = some r ∧ ∀ e ∈ r.cells, e.val rs' = e.val rs
  | [], _, id, hid, _, _ => by cases hid
  | k :: kept, h, id, hid, r, hr => by
    rcases List.mem_cons.1 hid with rfl | hid
    · have := h.1
      rw [hr] at this
      exact ⟨this.1, sameV_mem this.2⟩
    · exact keptOK_mem h.2 id hid r hr
/-- What may be leant on later may be leant on now. -/
theorem sw_mono {kept : List Nat} {st st' : St} (hF : st.F.sub st'.F) (hk : keptOK st.rs st'.rs kept) {x : World} (h : Sw (msk kept st') x) : Sw (msk kept st) x := by
  refine ⟨fun k o e => h.1 k o (hF k o e), fun id r b hr hb hne => ?_⟩
  obtain ⟨r0, h1, _, _, _, _, h6⟩ := mask_sub (kept := kept) (rs := st.rs) hr
  obtain ⟨hid, rfl⟩ := h6 hne
  obtain ⟨h2, h3⟩ := keptOK_mem hk id hid r h1
  have h4 : lkR (mask kept st'.rs) id = some r := by
    rw [lkR_mask, h2, Option.map_some, if_pos (by simpa using hid)]
  obtain ⟨cur, g1, g2⟩ := h.2 id r b h4 hb hne
  refine ⟨cur, g1, fun j ev u hj hu => g2 j ev u hj ?_⟩
  simp only [msk, val_mask] at hu ⊢
  rw [h3 ev (List.mem_of_getElem? hj)]
  exact hu
theorem wok_sw {c : Ctx} {kept : List Nat} {st : St} {x : World} (h : WOK c st.F st.rs x) : Sw (msk kept st) x := by
  refine ⟨h.le, fun id r b hr hb hne => ?_⟩
  obtain ⟨r0, h1, _, _, _, _, h6⟩ := mask_sub (kept := kept) (rs := st.rs) hr
  obtain ⟨hid, rfl⟩ := h6 hne
  have h2 := h.own.own id r h1
  rw [hb] at h2
  obtain ⟨_, _, cur, h3, _, h4⟩ := h2
  exact ⟨cur, h3, fun j ev u hj hu => h4 j ev u hj (by rw [← val_mask kept]; exact hu)⟩

theorem firsts_sound (htb : TbOK P tb) {c : Ctx} {ops : Array Oper} {kept : List Nat} {R : Act → World → Prop} (hsel : Region.noSelect ops = true) {KK : GEnv → St → Prop} {F : Hp} {rs : RL} {nx : Nat} {S : World → Prop} (hS : ∀ env x, S x → Sw ⟨env, F, mask kept rs, nx⟩ x) (hT : ∀ x, WOK c F rs x → S x) {f : Nat} :
    ∀ (is : List Nat) (l : List Oper) (done : Array Bool) (g : GEnv) (env : Env) (a : Act), (∀ x, WOK c F rs x → GSat c N g ⟨env, F, rs, nx⟩ a x) → firstsB .any ops done is = true → sel ops.toList is = some l → vcOps P tb N true ops.toList l KK g ⟨env, F, mask kept rs, nx⟩ →
      (∀ g' env' a', (∀ x, WOK c F rs x → GSat c N g' ⟨env', F, rs, nx⟩ a' x) → KK g' ⟨env', F, mask kept rs, nx⟩ → ∀ x, WOK c F rs x → wpAnyT P .any ops R f (setAll done is) S a' x) → ∀ x, WOK c F rs x → wpAnyT P .any ops R (f + is.length) done S a x := by
  intro is
  induction is with
  | nil =>
    intro l done g env a h _ hl hk H x hx
    simp only [sel, Option.some.injEq] at hl
    subst hl
    exact H g env a h hk x hx
  | cons i is ih =>
    intro l done g env a h hB hl hk H w hw
    simp only [sel] at hl
    split at hl
    · rename_i o l' ho hl'
      simp only [Option.some.injEq] at hl
      subst hl
      simp only [firstsB, Bool.and_eq_true] at hB
      obtain ⟨⟨hB1, hB2⟩, hB3⟩ := hB
      have ho' : ops[i]? = some o := by simpa using ho
      have hi' : i ∈ Region.ready .any ops done := by simpa using hB1
      have hm : GSat c N g ⟨env, F, mask kept rs, nx⟩ a w := mask_sat (h w hw) kept
      obtain ⟨v, g', st', hK, hF, hrs, hnx, h1, h2⟩ := quiet_step htb hm (o := o) hk
      obtain ⟨env', F', rs', nx'⟩ := st'
      simp only at hF hrs hnx
      subst hF hrs hnx
      obtain ⟨v', hv1, hv2⟩ : ∃ v', YieldsT P ops S o v' a ∧ GSat c N g' ⟨env', F', mask kept rs, nx'⟩ (a.put o.dst v') w := by
        by_cases hw : Region.wanted o (yielded ops a.tmps) = true
        · refine ⟨v, ?_, (h1 hw).2⟩
          unfold YieldsT
          rw [if_pos hw]
          exact fun x hx => (h1 hw).1 (Pres [] x) ⟨fun y hy => (rd_sw _).pres _ _ (hS env x hx) hy, fun y z hy hz => hy.trans hz⟩ x (Pres.refl [] x)
        · refine ⟨undef, ?_, h2 hw⟩
          unfold YieldsT
          rw [if_neg hw]
      have hs := back_sat (h w hw) hv2
      refine wpAnyT_first (R := R) ho' (Region.noSelect_spec hsel) (f + is.length) done S (fun x => WOK c F' rs x) a hT (fun x y hx hy => WOK.pres' hx hy) (Region.free_spec ho' hB2) hi' hv1 (fun x hx => ?_) w hw
      exact ih l' (done.setIfInBounds i true) g' env' _ (fun y hy => hs.world hy) hB3 hl' hK H x hx
    · simp at hl
theorem any_sound (htb : TbOK P tb) {c : Ctx} {ops : Array Oper} {kept : List Nat} {K : St → Prop} (hsel : Region.noSelect ops = true) : ∀ (m f : Nat) (done : Array Bool) (g : GEnv) (st : St) (a : Act) (w : World), GSat c N g st a w → vcAny P tb N ops kept K m f done g st →
    wpAnyT P .any ops (fun a w => ∃ st, Sat c N st a w ∧ K st) f done (Sw (msk kept st)) a w := by
  have stop : ∀ {g : GEnv} {st : St} {a : Act} {w : World}, GSat c N g st a w → VS N [] st K → ∃ st, Sat c N st a w ∧ K st := fun h hv => by
    obtain ⟨st', h1, h2⟩ := hv c _ _ h.drop
    exact ⟨st', h1, h2⟩
  intro m
  induction m with
  | zero => intro f done g st a w h hk; exact hk.elim
  | succ m ih =>
    intro f done g st a w h hk
    rcases hk with ⟨hr, hv⟩ | ⟨f', is, l, rfl, hB, hl, hk⟩ | ⟨f', rfl, hne, hk⟩
    · cases f with
      | zero => exact ⟨hr, stop h hv⟩
      | succ f => exact ⟨fun _ => stop h hv, fun i hi => by rw [hr] at hi; cases hi⟩
    · obtain ⟨env, F, rs, nx⟩ := st
      refine firsts_sound htb (kept := kept) hsel (S := Sw (msk kept ⟨env, F, rs, nx⟩)) (fun env' x hx => hx) (fun x hx => wok_sw (st := ⟨env, F, rs, nx⟩) hx) is l done g env a (fun x hx => h.world hx) hB hl hk (fun g' env' a' hs hk' x hx => ?_) w h.wok
      exact ih f' _ g' ⟨env', F, rs, nx⟩ a' x (hs x hx) hk'
    · refine ⟨fun h0 => absurd h0 hne, fun i hi => ?_⟩
      obtain ⟨o, ho, hk⟩ := hk i hi
      have key := plain_step htb h (ops := ops) (o := o) (Q := Qn (fun a w => ∃ st, Sat c N st a w ∧ K st)) (K' := fun a' w' => ∃ S' T' : World → Prop, (∀ x, S' x → Sw (msk kept st) x) ∧ (∀ x, T' x → S' x) ∧ (∀ x y, T' x → Pres [] x y → T' y) ∧ T' w' ∧ ∀ x, T' x → wpAnyT P .any ops (fun a w => ∃ st, Sat c N st a w ∧ K st) f' (done.setIfInBounds i true) S' a' x) (fun g' st' a' w' h1 h2 => by
          obtain ⟨h3, h4⟩ := h2
          exact ⟨Sw (msk kept st'), C c st', fun x hx => sw_mono (h3.1) h3.2 hx, fun x hx => wok_sw hx, fun x y hx hy => WOK.pres' hx hy, h1.wok, fun x hx => ih _ _ g' st' a' x (h1.world hx) h4⟩) hk
      unfold wpOp
      simp only [ho]
      split
      · rename_i hw; exact .inl (key.1 hw)
      · rename_i hw; exact key.2 hw
end
end Go.TR
/-!
A small program logic of our own for the model. Part k: code, functions, view shifts; the steps for calls, loops and ends. Nothing here speaks of one program.
-/
namespace Go.TR
variable {P : Program} {tb : Tb} {N : Nat}

def lift (c : Ctx) (N : Nat) (K : Exit → St → Prop) (e : Exit) (a : Act) (w : World) : Prop := ∃ st, Sat c N st a w ∧ K e st

theorem vc_sound (htb : TbOK P tb) (hm : P.follows .mixedOrders = true) (c : Ctx) : ∀ (code : Code) (K : Exit → St → Prop) (st : St) (a : Act) (w : World), Sat c N st a w → vc P tb N code K st → code.wp P (lift c N K) a w
  | .skip, K, st, a, w, h, hk => wp_skip ⟨st, h, hk⟩
  | .ret, K, st, a, w, h, hk => wp_ret ⟨st, h, hk⟩
  | .exit id, K, st, a, w, h, hk => wp_exit ⟨st, h, hk⟩
  | .seq x y, K, st, a, w, h, hk => by
    refine wp_seq (wp_mono (vc_sound htb hm c x _ st a w h hk) ?_)
    rintro e a' w' ⟨st', h', hk'⟩
    cases e with
    | normal => exact vc_sound htb hm c y K st' a' w' h' hk'
    | _ => exact ⟨st', h', hk'⟩
  | .block id x, K, st, a, w, h, hk => by
    refine wp_block (wp_mono (vc_sound htb hm c x _ st a w h hk) ?_)
    rintro e a' w' ⟨st', h', hk'⟩
    cases e with
    | exit j =>
      simp only [Exit.inBlock]
      simp only [blockK] at hk'
      by_cases hj : j = id
      · subst hj
        simp only [beq_self_eq_true, exitK] at hk'
        simp only [if_true]
        exact ⟨st', h', hk'⟩
      · rw [show (j == id) = false by simpa using hj] at hk'
        simp only [exitK] at hk'
        rw [if_neg hj]
        exact ⟨st', h', hk'⟩
    | _ => exact ⟨st', h', hk'⟩
  | .cond o x y, K, st, a, w, h, hk => by
    simp only [vc] at hk
    cases ho : opd st.rs [] st.env [] o with
    | none => simp [ho, condV] at hk
    | some e =>
      have e1 := fits_opd h (gA_nil a) _ _ ho
      cases e with
      | v u =>
        cases u with
        | bool b =>
          simp only [EV.val, Option.some.injEq] at e1
          cases b with
          | true =>
            rw [ho] at hk
            exact wp_cond_true e1.symm (vc_sound htb hm c x K st a w h hk)
          | false =>
            rw [ho] at hk
            exact wp_cond_false e1.symm (vc_sound htb hm c y K st a w h hk)
        | _ => simp [ho, condV] at hk
      | _ => simp [ho, condV] at hk
  | .loop x, K, st, a, w, h, hk => by
    obtain ⟨ι, T, μ, h0, hr⟩ := hk
    obtain ⟨st0, hs0, i, rfl⟩ := h0 c a w h
    refine wp_loop_ghost (fun n a w => ∃ i, μ i = n ∧ Sat c N (T i) a w) (μ i) ⟨i, rfl, hs0⟩ ?_
    rintro n a w ⟨i, rfl, hs⟩
    refine wp_mono (vc_sound htb hm c x _ (T i) a w hs (hr i)) ?_
    rintro e a' w' ⟨st', h', hk'⟩
    cases e with
    | normal =>
      obtain ⟨st2, h2, j, rfl, hlt⟩ := hk' c a' w' (Nat.le_min.2 ⟨h.hist.nxle, hs.hist.nxle⟩) h'
      exact ⟨μ j, hlt, j, rfl, h2⟩
    | ret =>
      obtain ⟨st2, h2, h3⟩ := hk' c a' w' h'
      exact ⟨st2, h2, h3⟩
    | exit j =>
      obtain ⟨st2, h2, h3⟩ := hk' c a' w' h'
      exact ⟨st2, h2, h3⟩
    | _ => exact ⟨st', h', hk'⟩
  | .region id ops dr, K, st, a, w, h, hk => by
    obtain ⟨st, h, hk⟩ := hk c a w h
    have mono : ∀ {ops : Array Oper} (l : List Oper) (a : Act) {Q Q' : Act → Prop}, (∀ a, Q a → Q' a) → wpQuiet P ops (C c st) Q l a → wpQuiet P ops (C c st) Q' l a := by
      intro ops l
      induction l with
      | nil => intro a Q Q' hq h; exact hq _ h
      | cons o l ih =>
        intro a Q Q' hq h
        unfold wpQuiet at h ⊢
        split
        · rename_i hw
          rw [if_pos hw] at h
          exact Oper.quiet_mono (fun a' h' => ih a' hq h') h
        · rename_i hw
          rw [if_neg hw] at h
          exact ih _ hq h
    have hdrew : C c st { w with drawn := w.drawn + 1 } := WOK.pres' h.wok (Pres.drewN [] w 1)
    have fin : ∀ g st a w, GSat c N g st a w → dropG (K .normal) g st → lift c N K .normal a w := fun g st a w hs hk => ⟨st, hs.drop, hk⟩
    rcases hk with ⟨h1, h2⟩ | ⟨n, hB, h2⟩ | ⟨rfl, hsel, kept, hk⟩
    · cases dr with
      | false => exact wp_region_list (ops_plain htb fin _ _ _ _ _ h h2)
      | true =>
        have h3 := ops_quiet htb ops.toList [] st a w h h2
        refine wp_region_quiet (C := C c st) hm (h1 rfl) hdrew ?_
        exact mono _ _ (fun a' ⟨g', st', hk', hs'⟩ w' hw' => fin _ _ _ _ (hs' w' hw') hk') h3
    · obtain ⟨l⟩ := ops
      have h3 := ops_quiet htb (ops := l.toArray) (l.take n) [] st a w h h2
      cases dr with
      | false =>
        refine wp_region_list ?_
        -- a region in the text's order: its head is quiet, then its tail
        have key : ∀ (l1 l2 : List Oper) (a : Act) (w : World) {G : Act → Prop}, C c st w → wpQuiet P l.toArray (C c st) G l1 a →
            (∀ a' w', C c st w' → G a' → wpList P l.toArray (lift c N K) l2 a' w') → wpList P l.toArray (lift c N K) (l1 ++ l2) a w := by
          intro l1
          induction l1 with
          | nil => intro l2 a w G hw h1 h2; exact h2 a w hw h1
          | cons o l1 ih =>
            intro l2 a w G hw h1 h2
            rw [List.cons_append]
            unfold wpQuiet at h1
            unfold wpList
            split
            · rename_i hwt
              rw [if_pos hwt] at h1
              exact .inl (Oper.wp_of_quiet hw (fun a' w' hw' h' => ih l2 a' w' hw' h' h2) h1)
            · rename_i hwt
              rw [if_neg hwt] at h1
              exact ih l2 _ w hw h1 h2
        have := key (l.take n) (l.drop n) a w h.wok h3 (fun a' w' hw' ⟨g', st', h4, h5⟩ => ops_plain htb (ops := l.toArray) fin _ _ _ _ _ (h5 w' hw').drop h4)
        rwa [List.take_append_drop] at this
      | true =>
        refine wp_region_head (C := C c st) n hm hB hdrew ?_
        exact mono _ _ (fun a' ⟨g', st', h4, h5⟩ w' hw' => ops_plain htb (ops := l.toArray) fin _ _ _ _ _ (h5 w' hw').drop h4) h3
    · refine wp_region_any hm ?_
      have := any_sound htb (c := c) (K := K .normal) hsel (ops.size + 1) ops.size (Array.replicate ops.size false) [] st a _ (h.world hdrew) hk
      exact wpAnyT.any (fun a w ⟨st', h1, h2⟩ => ⟨st', h1, h2⟩) _ _ _ _ _ this
  | .rangeFunc _ _ _ _, _, _, _, _, _, hk => hk.elim
  | .scope _, _, _, _, _, _, hk => hk.elim
  | .label _, _, _, _, _, _, hk => hk.elim
  | .goto _, _, _, _, _, _, hk => hk.elim
  | .refuse _, _, _, _, _, _, hk => hk.elim

/-! ### Functions -/
def resOne (tmps : Array Value) : ResultVar → Sem Value
  | .tmp t => Pure.pure (tmps.getD t undef)
  | .cell ad t => do loadVar t (← asAddr (tmps.getD ad undef))
theorem run_results (htb : TbOK P tb) {c : Ctx} {st : St} {a : Act} {w : World} (h : Sat c N st a w) : ∀ (l : List ResultVar) (xs : List Value), resV tb st l = some xs →
    (l.mapM (m := Sem) (resOne a.tmps)).run P w = .ok xs w
  | [], xs, hx => by simp only [resV, Option.some.injEq] at hx; subst hx; rfl
  | .tmp t :: l, xs, hx => by
    simp only [resV] at hx
    split at hx
    · rename_i e he
      split at hx
      · rename_i x ys hv hy
        simp only [Option.some.injEq] at hx
        subst hx
        have ih := run_results htb h l ys hy
        have := h.env t e x rfl he hv
        rw [List.mapM_cons]
        simp only [resOne, run_bind, run_pure, this, ih]
      · simp at hx
    · simp at hx
  | .cell ad t :: l, xs, hx => by
    simp only [resV] at hx
    split at hx
    · rename_i id off i he0 hi
      obtain ⟨he, hal⟩ : lk st.env ad = some (.loc id off) ∧ ∃ x, (EV.loc id off).val st.rs = some x := by
        cases hl : lk st.env ad with
        | none => rw [hl] at he0; simp [aliveO] at he0
        | some e0 =>
          rw [hl] at he0
          obtain ⟨h1, h2⟩ := alive_val he0
          exact ⟨by rw [h1], by rw [h1]; exact h2⟩
      split at hx
      · rename_i r ys hr hy
        have hbn : ∃ b, r.blk = some b := by
          obtain ⟨x, hx⟩ := hal
          simp only [EV.val, hr] at hx
          split at hx
          · rename_i b hb; exact ⟨b, hb⟩
          · simp at hx
        have ih := run_results htb h l ys hy
        have key : ∀ b v, r.blk = some b → (loadVar t ⟨b, off, none⟩).run P w = .ok v w → ((ResultVar.cell ad t :: l).mapM (m := Sem) (resOne a.tmps)).run P w = .ok (v :: ys) w := fun b v hb hl => by
          have hv : (EV.loc id off).val st.rs = some (.pointer (some ⟨b, off, none⟩)) := by simp only [EV.val, hr, hb]
          have := h.env ad _ _ rfl he hv
          rw [List.mapM_cons]
          simp only [resOne, run_bind, this, asAddr, run_pure, hl, ih]
        have la : ∀ {b : Nat} {v : Value}, (Instr.loadAt t (.pointer (some ⟨b, off, none⟩))).run P w = .ok v w → (loadVar t ⟨b, off, none⟩).run P w = .ok v w := fun {b v} hl => by
          simpa only [Instr.loadAt, Instr.sureAddr, run_bind, run_pure] using hl
        split at hx
        · rename_i ha
          split at hx
          · rename_i cs hcs
            split at hx
            · rename_i hle
              simp only [Option.some.injEq] at hx
              subst hx
              obtain ⟨hl, hcells⟩ := allV_spec hcs
              obtain ⟨b, hb⟩ := hbn
              refine key b _ hb (la ?_)
              refine run_loadAt_agg htb hi ha (by rw [hl]; simp; omega) fun j v hj => ?_
              obtain ⟨e', he', hv⟩ := hcells j v hj
              rw [addr_add]
              refine h.wok.own.cell hr hb ?_ hv
              rw [List.getElem?_drop, List.getElem?_take] at he'
              split at he'
              · exact he'
              · simp at he'
            · simp at hx
          · simp at hx
        · rename_i ha
          have ha' : i.kind.agg = false := by simpa using ha
          split at hx
          · rename_i e' he'
            split at hx
            · rename_i x hv
              simp only [Option.some.injEq] at hx
              subst hx
              obtain ⟨b, hb⟩ := hbn
              exact key b _ hb (la (run_loadAt_cell htb hi ha' (h.wok.own.cell hr hb he' hv)))
            · simp at hx
          · simp at hx
      · simp at hx
    · simp at hx

theorem results_ok (htb : TbOK P tb) {c : Ctx} {st : St} {a : Act} {w : World} (h : Sat c N st a w) {fn : Func} {xs : List Value} (hx : resV tb st fn.results.toList = some xs) : (results fn a.tmps).run P w = .ok (tupV xs) w := by
  have h1 := run_results htb h _ _ hx
  have h2 : (fn.results.mapM (m := Sem) (resOne a.tmps)).run P w = .ok xs.toArray w := by
    rw [Array.mapM_eq_mapM_toList, ← bind_pure_comp, run_bind, h1]
    rfl
  have e : results fn a.tmps = (do let vs ← fn.results.mapM (m := Sem) (resOne a.tmps); Pure.pure (if h : vs.size = 1 then vs[0] else .tuple vs)) := by
    unfold results
    congr 1
  rw [e, run_bind, h2]
  show Result.ok _ w = _
  congr 1
  match xs with
  | [] => rfl
  | [x] => rfl
  | x :: y :: t => rfl

def paramEnv : Nat → List Value → Env
  | _, [] => []
  | k, x :: xs => (k, .v x) :: paramEnv (k + 1) xs
theorem lk_paramEnv : ∀ (xs : List Value) (k n : Nat) (e : EV), lk (paramEnv k xs) n = some e → k ≤ n ∧ ∃ x, xs[n - k]? = some x ∧ e = .v x
  | [], k, n, e, h => by simp [paramEnv, lk] at h
  | x :: xs, k, n, e, h => by
    simp only [paramEnv, lk_cons] at h
    split at h
    · rename_i hn
      subst hn
      simp only [Option.some.injEq] at h
      exact ⟨Nat.le_refl _, x, by simp, h.symm⟩
    · rename_i hn
      obtain ⟨h1, y, h2, h3⟩ := lk_paramEnv xs (k + 1) n e h
      refine ⟨by omega, y, ?_, h3⟩
      have : n - k = (n - (k + 1)) + 1 := by omega
      rw [this, List.getElem?_cons_succ]
      exact h2
theorem start_sat {args : List Value} {N : Nat} (hN : args.length ≤ N) {F : Hp} {w : World} (hF : F.le w) :
    Sat ⟨w, F, F, [], 0, 0⟩ N ⟨paramEnv 0 args, F, [], 0⟩ { tmps := args.toArray ++ Array.replicate (N - args.toArray.size) undef, defers := [] } w where
  size := by simp; omega
  defers := rfl
  wok := {
    le := hF
    own := { own := fun id r h => by simp [lkR] at h, apart := fun i j r s b h => by simp [lkR] at h }
    pres := Pres.refl _ _
    new := fun id r b h => by simp [lkR] at h
    fnew := fun k h => .inl h
    sz := Nat.zero_le _
    tp := fun k hk => by
      have hk' : w.heap.size ≤ k := hk
      constructor <;> exact Option.eq_none_iff_forall_ne_some.2 (fun o ho => by have := hF k o ho; have := lt_of_some this; omega) }
  hist := ⟨Hp.sub.refl F, Nat.le_refl _, fun id r _ h => by simp [lkR] at h⟩
  rids := fun id r h => by simp [lkR] at h
  ids := fun n e h => by
    obtain ⟨_, x, _, rfl⟩ := lk_paramEnv _ _ _ _ h
    trivial
  env := fun n e x _ h hx => by
    obtain ⟨_, y, h2, rfl⟩ := lk_paramEnv _ _ _ _ h
    simp only [EV.val, Option.some.injEq] at hx
    subst hx
    simp only [Nat.sub_zero] at h2
    rw [Array.getD_eq_getD_getElem?, Array.getElem?_append_left (by have := (List.getElem?_eq_some_iff.1 h2).1; simpa using this)]
    simp [h2]
  gv := fun n ch e h => by simp [lkG] at h

theorem plain_of_vc (htb : TbOK P tb) (hm : P.follows .mixedOrders = true) {f : FuncId} {fn : Func} {code : Code} (hf : P.funcs[f]? = some fn) (hb : fn.body = some code) {args : List Value} (hN : Nat.ble args.length fn.ntmps = true) {F : Hp} {x : Value}
    (h : vc P tb fn.ntmps code (retK tb fn.results.toList (fun v => v = x)) ⟨paramEnv 0 args, F, [], 0⟩) : Plain P F f args x := by
  intro w hF
  have hN' : args.length ≤ fn.ntmps := by simpa using hN
  refine calls_of_wp hf hb ?_
  refine wp_mono (vc_sound htb hm ⟨w, F, F, [], 0, 0⟩ code _ _ _ w (start_sat hN' hF) h) ?_
  rintro e a' w' ⟨st, hs, hk⟩
  have key : retGo (fun v => v = x) (resV tb st fn.results.toList) → a'.defers = [] ∧ ∃ v, (results fn a'.tmps).run P w' = .ok v w' ∧ (Ending.returned v = .returned x ∧ Pres [] w w') := fun hk => by
    cases hr : resV tb st fn.results.toList with
    | none => simp [hr, retGo] at hk
    | some xs =>
      rw [hr] at hk
      simp only [retGo] at hk
      exact ⟨hs.defers, _, results_ok htb hs hr, by rw [hk], hs.wok.pres⟩
  cases e with
  | normal => exact key hk
  | ret => exact key hk
  | _ => exact hk.elim
theorem call_of_vc (htb : TbOK P tb) (hm : P.follows .mixedOrders = true) {f : FuncId} {fn : Func} {code : Code} (hf : P.funcs[f]? = some fn) (hb : fn.body = some code) {args : List Value} (hN : Nat.ble args.length fn.ntmps = true) {F : Hp} {Q : Value → Hp → RL → Prop}
    (h : vc P tb fn.ntmps code (retG fn.ntmps tb fn.results.toList Q) ⟨paramEnv 0 args, F, [], 0⟩) : CallOK P F f args Q := by
  intro w hF
  have hN' : args.length ≤ fn.ntmps := by simpa using hN
  refine calls_of_wp hf hb ?_
  refine wp_mono (vc_sound htb hm ⟨w, F, F, [], 0, 0⟩ code _ _ _ w (start_sat hN' hF) h) ?_
  rintro e a' w' ⟨st, hs, hk⟩
  have key : (VSf 0 fn.ntmps [] st fun st' => ∃ xs, resV tb st' fn.results.toList = some xs ∧ Q (tupV xs) st'.F st'.rs) → a'.defers = [] ∧ ∃ v, (results fn a'.tmps).run P w' = .ok v w' ∧ ∃ x F' new, Ending.returned v = .returned x ∧ F.sub F' ∧ F'.le w' ∧ Pres [] w w' ∧ FNew F F' w.heap.size ∧
      Owned F' new w' ∧ (∀ id r b, lkR new id = some r → r.at b → w.heap.size ≤ b) ∧ Q x F' new := fun hk => by
    obtain ⟨st', hs', xs, hr, hq⟩ := hk _ a' w' (Nat.le_refl 0) hs
    refine ⟨hs'.defers, _, results_ok htb hs' hr, _, st'.F, st'.rs, rfl, hs'.hist.sub, hs'.wok.le, hs'.wok.pres, hs'.wok.fnew, hs'.wok.own, fun id r b h1 h2 => hs'.wok.new id r b h1 h2, hq⟩
  cases e with
  | normal => exact key hk
  | ret => exact key hk
  | _ => exact hk.elim
/-! ### A callee that works on the caller's memory -/
def paramE : Nat → List EV → Env
  | _, [] => []
  | k, x :: xs => (k, x) :: paramE (k + 1) xs
theorem lk_paramE : ∀ (xs : List EV) (k n : Nat) (e : EV), lk (paramE k xs) n = some e → k ≤ n ∧ xs[n - k]? = some e
  | [], k, n, e, h => by simp [paramE, lk] at h
  | x :: xs, k, n, e, h => by
    simp only [paramE, lk_cons] at h
    split at h
    · rename_i hn
      subst hn
      simp only [Option.some.injEq] at h
      exact ⟨Nat.le_refl _, by simp [h]⟩
    · rename_i hn
      obtain ⟨h1, h2⟩ := lk_paramE xs (k + 1) n e h
      refine ⟨by omega, ?_⟩
      have : n - k = (n - (k + 1)) + 1 := by omega
      rw [this, List.getElem?_cons_succ]
      exact h2
theorem allV_get {rs : RL} : ∀ {l : List EV} {xs : List Value}, allV rs l = some xs → ∀ (j : Nat) (e : EV), l[j]? = some e → ∃ x, xs[j]? = some x ∧ e.val rs = some x
  | [], _, _, j, e, h => by simp at h
  | e0 :: l, xs, h, j, e, hj => by
    simp only [allV] at h
    split at h
    · rename_i x ys hx hy
      simp only [Option.some.injEq] at h
      subst h
      cases j with
      | zero => simp only [List.getElem?_cons_zero, Option.some.injEq] at hj; subst hj; exact ⟨x, rfl, hx⟩
      | succ j => exact allV_get hy j e (by simpa using hj)
    · simp at h
theorem allV_length {rs : RL} : ∀ {l : List EV} {xs : List Value}, allV rs l = some xs → xs.length = l.length
  | [], xs, h => by simp only [allV, Option.some.injEq] at h; subst h; rfl
  | e0 :: l, xs, h => by
    simp only [allV] at h
    split at h
    · rename_i x ys hx hy
      simp only [Option.some.injEq] at h
      subst h
      simp [allV_length hy]
    · simp at h
theorem resE_ok (htb : TbOK P tb) {c : Ctx} {st : St} {a : Act} {w : World} (h : Sat c N st a w) {fn : Func} {e : EV} (hx : resE tb st fn.results.toList = some e) : ∃ x, (results fn a.tmps).run P w = .ok x w ∧ e.val st.rs = some x ∧ e.lt st.nx := by
  unfold resE at hx
  split at hx
  · rename_i t ht
    unfold aliveO at hx
    split at hx
    · rename_i e0 he
      obtain ⟨rfl, x, hv⟩ := alive_val hx
      refine ⟨x, ?_, hv, h.ids t _ he⟩
      have : resV tb st fn.results.toList = some [x] := by rw [ht]; simp only [resV, he, hv]
      exact results_ok htb h this
    · simp at hx
  · rename_i l _ 
    split at hx
    · rename_i xs hr
      simp only [Option.some.injEq] at hx
      subst hx
      exact ⟨tupV xs, results_ok htb h hr, rfl, trivial⟩
    · simp at hx
theorem callin_of_vc (htb : TbOK P tb) (hm : P.follows .mixedOrders = true) {f : FuncId} {fn : Func} {code : Code} (hf : P.funcs[f]? = some fn) (hb : fn.body = some code) {args : List EV} (hN : Nat.ble args.length fn.ntmps = true) {F : Hp} {rs : RL} {nx : Nat} {Q : EV → Hp → RL → Nat → Prop}
    (h : vc P tb fn.ntmps code (retI fn.ntmps tb fn.results.toList Q) ⟨paramE 0 args, F, rs, nx⟩) : CallIn P F rs nx f args Q := by
  intro c w hw hh hr h2 h3 xs hxs
  have hN' : args.length ≤ fn.ntmps := by simpa using hN
  have hl := allV_length hxs
  refine calls_of_wp hf hb ?_
  have hs0 : Sat c fn.ntmps ⟨paramE 0 args, F, rs, nx⟩ { tmps := xs.toArray ++ Array.replicate (fn.ntmps - xs.toArray.size) undef, defers := [] } w := {
    size := by simp; omega
    defers := rfl
    wok := hw
    hist := hh
    rids := hr
    ids := fun n e he => by
      obtain ⟨_, h5⟩ := lk_paramE _ _ _ _ he
      obtain ⟨x, _, h7⟩ := allV_get hxs _ _ h5
      exact lt_of_val (fun id r hr' => (hr id r hr').1) h7
    env := fun n e x _ he hx => by
      obtain ⟨_, h5⟩ := lk_paramE _ _ _ _ he
      obtain ⟨y, h6, h7⟩ := allV_get hxs _ _ h5
      simp only [Nat.sub_zero] at h6
      simp only at hx
      rw [h7] at hx
      simp only [Option.some.injEq] at hx
      subst hx
      rw [Array.getD_eq_getD_getElem?, Array.getElem?_append_left (by have := (List.getElem?_eq_some_iff.1 h6).1; simpa using this)]
      simp [h6]
    gv := fun n ch e he => by simp [lkG] at he }
  refine wp_mono (vc_sound htb hm c code _ _ _ w hs0 h) ?_
  rintro e a' w' ⟨st, hs, hk⟩
  have key : (VS fn.ntmps [] st fun st' => ∃ e, resE tb st' fn.results.toList = some e ∧ Q e st'.F st'.rs st'.nx) → a'.defers = [] ∧ ∃ v, (results fn a'.tmps).run P w' = .ok v w' ∧ ∃ x ev F' rs' nx', Ending.returned v = .returned x ∧ WOK c F' rs' w' ∧ Hist c F' rs' nx' ∧ (∀ id r, lkR rs' id = some r → id < nx' ∧ ∀ e ∈ r.cells, e.lt nx') ∧ ev.lt nx' ∧ ev.val rs' = some x ∧ Q ev F' rs' nx' := fun hk => by
    obtain ⟨st', hs', ev, hr, hq⟩ := hk _ a' w' hs
    obtain ⟨x, g1, g2, g3⟩ := resE_ok htb hs' hr
    exact ⟨hs'.defers, x, g1, x, ev, st'.F, st'.rs, st'.nx, rfl, hs'.wok, hs'.hist, hs'.rids, g3, g2, hq⟩
  cases e with
  | normal => exact key hk
  | ret => exact key hk
  | _ => exact hk.elim
end Go.TR
/-!
A small program logic of our own for the model. Part l: the steps for calls, loads out of the frozen part, loops, ends; view shifts. Nothing here speaks of one program.
-/
namespace Go.TR
section
variable {P : Program} {tb : Tb} {N : Nat} {dr : Bool} {all rest : List Oper} {K : GEnv → St → Prop} {KK : Exit → St → Prop} {g : GEnv} {st : St}

theorem callEff_of_plain {f : FuncId} {args : List Value} {x : Value} {d : Option Nat} {K : GEnv → St → Prop} {env : Env} {F : Hp} {rs : RL} {nx : Nat} (hp : Plain P F f args x) (hk : putV N [] d (.v x) K g ⟨env, F, rs, nx⟩) : callEff P N f args d K g ⟨env, F, rs, nx⟩ := by
  refine VS.id ⟨fun v F' new => v = x ∧ F' = F ∧ new = [], fun w hF => ?_, ?_⟩
  · refine (hp w hF).mono fun e w' ⟨he, hpr⟩ => ⟨x, F, [], he, Hp.sub.refl F, hF.pres hpr (by simp), hpr, fun k hk => .inl hk, ⟨fun id r h => by simp [lkR] at h, fun i j r s b h => by simp [lkR] at h⟩, fun id r b h => by simp [lkR] at h, rfl, rfl, rfl⟩
  · rintro v F' new _ ⟨rfl, rfl, rfl⟩
    exact ⟨0, .v v, fun id r h => by simp [lkR] at h, rfl, hk⟩
/-- A call that gives one plain value: unguarded. -/
theorem s_plain {d : Nat} {f : Operand} {args : Array Operand} {ts : Array TypeId} {n : FuncId} {first captured : Array Value} {xs ys : List Value} {ty : TypeId} {pos : String} {af : Array Edge} {env : Env} {F : Hp} {rs : RL} {nx : Nat} (x : Value)
    (hf : opd rs [] env [] f = some (.v (.func (.func n) first captured))) (hx : vals rs (opd rs [] env []) args.toList = some xs) (hy' : forceL (first.toList ++ xs ++ captured.toList) = some ys) (hb : bodied P n) (hd : Nat.blt d N = true) (hp : Plain P F n ys x)
    (k : vcOps P tb N dr all rest K [] ⟨(d, .v x) :: env, F, rs, nx⟩) : vcOps P tb N dr all (⟨some d, .call ⟨.value f, args, ts⟩, ty, pos, af, none⟩ :: rest) K [] ⟨env, F, rs, nx⟩ := by
  have hd' : d < N := by simpa using hd
  rw [forceL_eq, Option.some.injEq] at hy'
  subst hy'
  refine .inl ?_
  simp only [opV, hf, hx, callGo]
  refine ⟨hb, ?_⟩
  have hput : putV N [] (some d) (.v x) (vcOps P tb N dr all rest K) [] ⟨env, F, rs, nx⟩ := by simp only [putV]; exact ⟨hd', k⟩
  cases dr with
  | true => exact ⟨x, hp, hput⟩
  | false => exact callEff_of_plain hp hput
/-- .. guarded. -/
theorem s_gplain {d j : Nat} {want : Bool} {f : Operand} {args : Array Operand} {ts : Array TypeId} {n : FuncId} {first captured : Array Value} {xs ys : List Value} {ty : TypeId} {pos : String} {af : Array Edge} {env : Env} {F : Hp} {rs : RL} {nx : Nat} {c : Nat × Bool × Bool} {ch : Chain} (x : Value)
    (hg : chainOf all g env j want = some (c :: ch)) (hf : opd rs g env (c :: ch) f = some (.v (.func (.func n) first captured))) (hx : vals rs (opd rs g env (c :: ch)) args.toList = some xs) (hy' : forceL (first.toList ++ xs ++ captured.toList) = some ys) (hb : bodied P n) (hd : Nat.blt d N = true) (hc : (chainFree d g && envFree d env) = true)
    (hp : gP (c :: ch) → Plain P F n ys x)
    (k : vcOps P tb N dr all rest K ((d, c :: ch, .v x) :: g) ⟨env, F, rs, nx⟩) : vcOps P tb N dr all (⟨some d, .call ⟨.value f, args, ts⟩, ty, pos, af, some (j, want)⟩ :: rest) K g ⟨env, F, rs, nx⟩ := by
  have hd' : d < N := by simpa using hd
  rw [forceL_eq, Option.some.injEq] at hy'
  subst hy'
  refine stepV_guard (st := ⟨env, F, rs, nx⟩) hg ?_
  simp only [opV, hf, hx, callGo]
  refine ⟨hb, ?_⟩
  have hput : putV N (c :: ch) (some d) (.v x) (vcOps P tb N dr all rest K) g ⟨env, F, rs, nx⟩ := by simp only [putV]; exact ⟨hd', hc, k⟩
  cases dr with
  | true => exact ⟨x, hp, hput⟩
  | false => exact ⟨x, hp, hput⟩
/-- One cell out of the frozen part. -/
theorem s_load {d : Nat} {t : TypeId} {a : Operand} {ty : TypeId} {pos : String} {af : Array Edge} {env : Env} {F : Hp} {rs : RL} {nx : Nat} {i : TI} {p : Option Addr} (x : Value) (hi : tb t = some i) (ha : i.kind.agg = false) (hp : opd rs [] env [] a = some (.v (.pointer p))) (hd : Nat.blt d N = true) (hx : Pcell F p = some x)
    (k : vcOps P tb N dr all rest K [] ⟨(d, .v x) :: env, F, rs, nx⟩) : vcOps P tb N dr all (⟨some d, .load t a, ty, pos, af, none⟩ :: rest) K [] ⟨env, F, rs, nx⟩ := by
  have hd' : d < N := by simpa using hd
  refine .inl ?_
  simp only [opV, hi, hp, loadGo, ha, loadF, putK, putV]
  exact ⟨x, hx, hd', k⟩
theorem s_gload {d j : Nat} {want : Bool} {t : TypeId} {a : Operand} {ty : TypeId} {pos : String} {af : Array Edge} {env : Env} {F : Hp} {rs : RL} {nx : Nat} {i : TI} {p : Option Addr} {c : Nat × Bool × Bool} {ch : Chain} (x : Value) (hg : chainOf all g env j want = some (c :: ch)) (hi : tb t = some i) (ha : i.kind.agg = false)
    (hp : opd rs g env (c :: ch) a = some (.v (.pointer p))) (hd : Nat.blt d N = true) (hc : (chainFree d g && envFree d env) = true) (hx : gP (c :: ch) → Pcell F p = some x)
    (k : vcOps P tb N dr all rest K ((d, c :: ch, .v x) :: g) ⟨env, F, rs, nx⟩) : vcOps P tb N dr all (⟨some d, .load t a, ty, pos, af, some (j, want)⟩ :: rest) K g ⟨env, F, rs, nx⟩ := by
  have hd' : d < N := by simpa using hd
  refine stepV_guard (st := ⟨env, F, rs, nx⟩) hg ?_
  simp only [opV, hi, hp, loadGo, ha, loadF, putK, putV]
  exact ⟨x, hx, hd', hc, k⟩
/-- The cells of an aggregate out of the frozen part. -/
theorem s_loadA {d : Nat} {t : TypeId} {a : Operand} {ty : TypeId} {pos : String} {af : Array Edge} {env : Env} {F : Hp} {rs : RL} {nx : Nat} {i : TI} {p : Option Addr} (cs : List Value) (hi : tb t = some i) (ha : i.kind.agg = true) (hp : opd rs [] env [] a = some (.v (.pointer p))) (hd : Nat.blt d N = true) (hl : cs.length = i.size)
    (hs : p.isSome = true) (hx : ∀ j, j < i.size → Pcell F (padd p j) = cs[j]?)
    (k : vcOps P tb N dr all rest K [] ⟨(d, .v (.agg cs.toArray)) :: env, F, rs, nx⟩) : vcOps P tb N dr all (⟨some d, .load t a, ty, pos, af, none⟩ :: rest) K [] ⟨env, F, rs, nx⟩ := by
  have hd' : d < N := by simpa using hd
  refine .inl ?_
  simp only [opV, hi, hp, loadGo, ha, loadF, putK, putV]
  exact ⟨cs, hl, ⟨hs, hx⟩, hd', k⟩

/-! The table of types. -/
def lkT : List (Nat × TI) → Tb
  | [], _ => none
  | (m, i) :: t, n => match Nat.beq n m with
    | true => some i
    | false => lkT t n
def AllOK (P : Program) : List (Nat × TI) → Prop
  | [] => True
  | (m, i) :: t => i.ok P m ∧ AllOK P t
theorem lkT_ok : ∀ {l : List (Nat × TI)}, AllOK P l → TbOK P (lkT l)
  | [], _, t, i, h => by simp [lkT] at h
  | (m, j) :: l, h0, t, i, h => by
    simp only [lkT] at h
    split at h
    · rename_i hb
      simp only [Option.some.injEq] at h
      subst h
      have := Nat.eq_of_beq_eq_true hb
      subst this
      exact h0.1
    · exact lkT_ok h0.2 t i h

/-! View shifts that only drop or rename. -/
def EnvSub (rs rs' : RL) (env : Env) : Env → Prop
  | [] => True
  | (n, e) :: t => (∃ e' x, lk env n = some e' ∧ e'.val rs = some x ∧ e.val rs' = some x) ∧ EnvSub rs rs' env t
theorem EnvSub.lk {rs rs' : RL} {env : Env} : ∀ {env' : Env}, EnvSub rs rs' env env' → ∀ n e, lk env' n = some e → ∃ e' x, Go.TR.lk env n = some e' ∧ e'.val rs = some x ∧ e.val rs' = some x
  | [], _, n, e, h => by simp [Go.TR.lk] at h
  | (m, v) :: t, hs, n, e, h => by
    rw [lk_cons] at h
    split at h
    · rename_i hn
      simp only [Option.some.injEq] at h
      subst hn h
      exact hs.1
    · exact EnvSub.lk hs.2 n e h
/-- The same blocks; the slots that are named. -/
theorem VS.env {env env' : Env} {F : Hp} {rs : RL} {nx : Nat} {G : St → Prop} (h : EnvSub rs rs env env') (k : G ⟨env', F, rs, nx⟩) : VS N [] ⟨env, F, rs, nx⟩ G := by
  intro c a w hs
  refine ⟨_, ?_, k⟩
  exact {
    size := hs.size
    defers := hs.defers
    wok := hs.wok
    hist := hs.hist
    rids := hs.rids
    ids := fun n e he => by
      obtain ⟨e', x, h1, h2, h3⟩ := h.lk n e he
      exact lt_of_val (fun id r hr => (hs.rids id r hr).1) h3
    env := fun n e x _ he hx => by
      obtain ⟨e', x', h1, h2, h3⟩ := h.lk n e he
      have := hs.env n e' x' rfl h1 h2
      simp only at hx
      rw [hx] at h3
      rw [this]
      exact (Option.some.inj h3).symm
    gv := fun n ch e he => by simp [lkG] at he }

/-- The named slots alone. -/
def keepE (rs : RL) (env : Env) : List Nat → Option Env
  | [] => some []
  | n :: t => match Go.TR.lk env n with
    | some e => (match alive rs e, keepE rs env t with
      | some e', some l => some ((n, e') :: l)
      | _, _ => none)
    | none => none
theorem keepE_sub {rs : RL} {env : Env} : ∀ {slots : List Nat} {env' : Env}, keepE rs env slots = some env' → EnvSub rs rs env env'
  | [], env', h => by simp only [keepE, Option.some.injEq] at h; subst h; trivial
  | n :: t, env', h => by
    simp only [keepE] at h
    split at h
    · rename_i e he
      split at h
      · rename_i e' l ha hl
        simp only [Option.some.injEq] at h
        subst h
        obtain ⟨rfl, x, hx⟩ := alive_val ha
        exact ⟨⟨_, x, he, hx, hx⟩, keepE_sub hl⟩
      · simp at h
    · simp at h
theorem VS.keep {env env' : Env} {F : Hp} {rs : RL} {nx : Nat} {G : St → Prop} (slots : List Nat) (h : keepE rs env slots = some env') (k : G ⟨env', F, rs, nx⟩) : VS N [] ⟨env, F, rs, nx⟩ G := VS.env (keepE_sub h) k

/-! Loops. -/
theorem s_loopr {ι : Type} {kn : Nat} {T : ι → St} {μ : ι → Nat} {i : ι} (k : KK .ret st) : loopK N kn T μ i KK .ret st := VS.id k
theorem s_loope {ι : Type} {kn : Nat} {T : ι → St} {μ : ι → Nat} {i : ι} {id : Nat} (k : KK (.exit id) st) : loopK N kn T μ i KK (.exit id) st := VS.id k

/-! Contracts, with the numbers of the function laid open. -/
theorem plain_vc (htb : TbOK P tb) (hm : P.follows .mixedOrders = true) {f : FuncId} {fn : Func} (hf : P.funcs[f]? = some fn) {code : Code} (hb : fn.body = some code) {N : Nat} (hn : fn.ntmps = N) {rv : List ResultVar} (hr : fn.results.toList = rv) {args : List Value} {env : Env} (he : paramEnv 0 args = env)
    (hN : Nat.ble args.length N = true) {F : Hp} {x : Value} (h : vc P tb N code (retK tb rv (fun v => v = x)) ⟨env, F, [], 0⟩) : Plain P F f args x := by
  subst hn hr he
  exact plain_of_vc htb hm hf hb hN h
theorem call_vc (htb : TbOK P tb) (hm : P.follows .mixedOrders = true) {f : FuncId} {fn : Func} (hf : P.funcs[f]? = some fn) {code : Code} (hb : fn.body = some code) {N : Nat} (hn : fn.ntmps = N) {rv : List ResultVar} (hr : fn.results.toList = rv) {args : List Value} {env : Env} (he : paramEnv 0 args = env)
    (hN : Nat.ble args.length N = true) {F : Hp} {Q : Value → Hp → RL → Prop} (h : vc P tb N code (retG N tb rv Q) ⟨env, F, [], 0⟩) : CallOK P F f args Q := by
  subst hn hr he
  exact call_of_vc htb hm hf hb hN h
/-- At an undecided test. -/
theorem s_if {c : Operand} {x y : Code} (b : Bool) (h : opd st.rs [] st.env [] c = some (.v (.bool b))) (k1 : b = true → vc P tb N x KK st) (k2 : b = false → vc P tb N y KK st) : vc P tb N (.cond c x y) KK st := s_cond h k1 k2

/-- Memory may be named anew ahead of an operation. -/
theorem s_shift {d : Option Nat} {op : Op} {ty : TypeId} {pos : String} {af : Array Edge} (h : VS N g st fun st => vcOps P tb N false all (⟨d, op, ty, pos, af, none⟩ :: rest) K g st) : vcOps P tb N false all (⟨d, op, ty, pos, af, none⟩ :: rest) K g st := by
  refine .inr (.inr ⟨rfl, fun c a w hs => ?_⟩)
  obtain ⟨st', h1, h2⟩ := h c a w hs
  rcases h2 with h2 | ⟨_, h2⟩ | ⟨_, h2⟩
  · exact ⟨st', h1, .inl h2⟩
  · exact ⟨st', h1, .inr (.inl h2)⟩
  · exact h2 c a w h1
/-- By the machine's own words. -/
theorem s_sem {d : Nat} {op : Op} {ty : TypeId} {pos : String} {af : Array Edge} (e : EV) {env : Env} {F : Hp} {rs : RL} {nx : Nat} (hd : Nat.blt d N = true)
    (h : ∀ (c : Ctx) (a : Act) (w : World) (o : Oper), GSat c N [] st a w → o.op = op → ∃ v w', (execOp a.eval o).run P w = .ok (.value v) w' ∧ GSat c N [] ⟨env, F, rs, nx⟩ a w' ∧ e.val rs = some v)
    (k : vcOps P tb N false all rest K [] ⟨(d, e) :: env, F, rs, nx⟩) : vcOps P tb N false all (⟨some d, op, ty, pos, af, none⟩ :: rest) K [] st := by
  have hd' : d < N := by simpa using hd
  refine .inr (.inr ⟨rfl, VS.id (.inr (.inr ⟨Unit, fun _ => e, fun _ => ⟨env, F, rs, nx⟩, fun c a w o h1 h2 => (by obtain ⟨v, w', q1, q2, q3⟩ := h c a w o h1 h2; exact ⟨(), v, w', .inl q1, q2, q3⟩), fun _ => ?_⟩))⟩)
  simp only [putE, putV]
  exact ⟨hd', k⟩
/-- The same, where what is there behind it hangs on the world. -/
theorem s_semF {d : Nat} {op : Op} {ty : TypeId} {pos : String} {af : Array Edge} {ι : Type} (e : ι → EV) {env : ι → Env} {F : ι → Hp} {rs : ι → RL} {nx : ι → Nat} (hd : Nat.blt d N = true)
    (h : ∀ (c : Ctx) (a : Act) (w : World) (o : Oper), GSat c N [] st a w → o.op = op → ∃ i v w', (execOp a.eval o).run P w = .ok (.value v) w' ∧ GSat c N [] ⟨env i, F i, rs i, nx i⟩ a w' ∧ (e i).val (rs i) = some v)
    (k : ∀ i, vcOps P tb N false all rest K [] ⟨(d, e i) :: env i, F i, rs i, nx i⟩) : vcOps P tb N false all (⟨some d, op, ty, pos, af, none⟩ :: rest) K [] st := by
  have hd' : d < N := by simpa using hd
  refine .inr (.inr ⟨rfl, VS.id (.inr (.inr ⟨ι, e, fun i => ⟨env i, F i, rs i, nx i⟩, fun c a w o h1 h2 => (by obtain ⟨i, v, w', q1, q2, q3⟩ := h c a w o h1 h2; exact ⟨i, v, w', .inl q1, q2, q3⟩), fun i => ?_⟩))⟩)
  simp only [putE, putV]
  exact ⟨hd', k i⟩

/-! Under open guards: a load that no guard holds back. -/
theorem s_gloadA {d j : Nat} {want : Bool} {t : TypeId} {a : Operand} {ty : TypeId} {pos : String} {af : Array Edge} {env : Env} {F : Hp} {rs : RL} {nx : Nat} {i : TI} {p : Option Addr} {c : Nat × Bool × Bool} {ch : Chain} (cs : List Value) (hg : chainOf all g env j want = some (c :: ch)) (hi : tb t = some i) (ha : i.kind.agg = true)
    (hp : opd rs g env (c :: ch) a = some (.v (.pointer p))) (hd : Nat.blt d N = true) (hc : (chainFree d g && envFree d env) = true) (hl : cs.length = i.size) (hs : gP (c :: ch) → p.isSome = true ∧ ∀ j, j < i.size → Pcell F (padd p j) = cs[j]?)
    (k : vcOps P tb N dr all rest K ((d, c :: ch, .v (.agg cs.toArray)) :: g) ⟨env, F, rs, nx⟩) : vcOps P tb N dr all (⟨some d, .load t a, ty, pos, af, some (j, want)⟩ :: rest) K g ⟨env, F, rs, nx⟩ := by
  have hd' : d < N := by simpa using hd
  refine stepV_guard (st := ⟨env, F, rs, nx⟩) hg ?_
  simp only [opV, hi, hp, loadGo, ha, loadF, putK, putV]
  exact ⟨cs, hl, hs, hd', hc, k⟩
/-- A cell of an owned block whose cells are told of by a list. -/
theorem s_locX {d : Nat} {t : TypeId} {a : Operand} {ty : TypeId} {pos : String} {af : Array Edge} {env : Env} {F : Hp} {rs : RL} {nx id off : Nat} {i : TI} {r : Blk} (x : Value) (hi : tb t = some i) (ha : i.kind.agg = false) (hp : opd rs [] env [] a = some (.loc id off)) (hr : lkR rs id = some r) (hd : Nat.blt d N = true) (hx : r.cells[off]? = some (.v x))
    (k : vcOps P tb N dr all rest K [] ⟨(d, .v x) :: env, F, rs, nx⟩) : vcOps P tb N dr all (⟨some d, .load t a, ty, pos, af, none⟩ :: rest) K [] ⟨env, F, rs, nx⟩ := by
  have hd' : d < N := by simpa using hd
  refine .inl ?_
  simp only [opV, hi, hp, loadGo, hr, ha, loadL, hx, aliveO, alive, optV, putK, putV]
  exact ⟨hd', k⟩
theorem s_locXA {d : Nat} {t : TypeId} {a : Operand} {ty : TypeId} {pos : String} {af : Array Edge} {env : Env} {F : Hp} {rs : RL} {nx id off : Nat} {i : TI} {r : Blk} (cs : List Value) (hi : tb t = some i) (ha : i.kind.agg = true) (hp : opd rs [] env [] a = some (.loc id off)) (hr : lkR rs id = some r) (hd : Nat.blt d N = true) (hle : off + i.size ≤ r.cells.length) (hx : (r.cells.take (off + i.size)).drop off = cs.map .v)
    (k : vcOps P tb N dr all rest K [] ⟨(d, .v (.agg cs.toArray)) :: env, F, rs, nx⟩) : vcOps P tb N dr all (⟨some d, .load t a, ty, pos, af, none⟩ :: rest) K [] ⟨env, F, rs, nx⟩ := by
  have hd' : d < N := by simpa using hd
  refine .inl ?_
  simp only [opV, hi, hp, loadGo, hr, ha, loadL, hx, allV_map_v, optL, putK, putV]
  exact ⟨hle, hd', k⟩
/-- A store into an owned block whose cells are told of by a list. -/
theorem s_storeX {t : TypeId} {a x : Operand} {ty : TypeId} {pos : String} {af : Array Edge} {env : Env} {F : Hp} {rs rs' : RL} {nx id off : Nat} {i : TI} {r : Blk} {e : EV} (cells' : List EV) (hi : tb t = some i) (ha : opd rs g env [] a = some (.loc id off)) (hx : opd rs g env [] x = some e) (hr : lkR rs id = some r) (hl : (cellsOf e).length = i.size) (h1 : (cellsOf e).all one = true) (hle : off + i.size ≤ r.cells.length)
    (hc : r.cells.take off ++ cellsOf e ++ r.cells.drop (off + i.size) = cells') (hrs : forceL (setR rs id ⟨r.blk, cells', r.ty, r.cap⟩) = some rs')
    (k : vcOps P tb N false all rest K g ⟨env, F, rs', nx⟩) : vcOps P tb N false all (⟨none, .store t a x, ty, pos, af, none⟩ :: rest) K g ⟨env, F, rs, nx⟩ := by
  rw [forceL_eq, Option.some.injEq] at hrs
  subst hc hrs
  refine .inl ?_
  simp only [opV, hi, ha, hx, storeGo, hr, storeIn]
  exact ⟨trivial, trivial, trivial, hl, h1, hle, k⟩

/-! New rows. -/
theorem s_bslice {d : Nat} {t e : TypeId} {n : Nat} {ps : Array (Nat × Operand)} {ty : TypeId} {pos : String} {af : Array Edge} {env : Env} {F : Hp} {rs : RL} {nx : Nat} {xs : List (Nat × Value)} {cs : List Value} {cells : List EV} {ti : TI} {m : Nat} (ht : tk tb t = some (.slice e)) (hi : tb e = some ti) (hp : partsOf rs (opd rs [] env []) ps.toList = some xs) (hz : Nat.ble (n * ti.size) 16777216 = true)
    (hf : fillV (fun i => some (i * ti.size, ti.size)) (zerosV (n * ti.size) ti.zero) xs = some cs) (hc : forceL (cs.map EV.v) = some cells) (hm : cells.length = m) (hd : Nat.blt d N = true)
    (k : ∀ b, vcOps P tb N false all rest K [] ⟨(d, .row nx 0 n n) :: env, F, (nx, ⟨some b, cells, e, m⟩) :: rs, nx + 1⟩) : vcOps P tb N false all (⟨some d, .buildSlice t n ps, ty, pos, af, none⟩ :: rest) K [] ⟨env, F, rs, nx⟩ := by
  have hd' : d < N := by simpa using hd
  have hz' : n * ti.size ≤ 2 ^ 24 := by simpa using hz
  rw [forceL_eq, Option.some.injEq] at hc
  subst hc hm
  refine .inl ?_
  simp only [opV, ht, hp, bsGo, hi, bsElem, hf, bsFill, rowV, putV]
  exact ⟨trivial, trivial, hz', fun b => ⟨hd', k b⟩⟩

/-! Appending. -/
def SrcIs (F : Hp) (rs : RL) (size : Nat) (y : Option EV) (m : Nat) (news : List EV) : Prop := ∀ k : Nat → List EV → Prop, k m news → srcV F rs size k y
theorem src_row {F : Hp} {rs : RL} {size id m c b : Nat} {cells : List EV} {ty : TypeId} {cap : Nat} (hr : lkR rs id = some ⟨some b, cells, ty, cap⟩) (hl : m * size = cells.length) : SrcIs F rs size (some (.row id 0 m c)) m cells := fun k hk => by
  simp only [srcV, hr, srcR]
  refine ⟨by omega, ?_⟩
  rw [Nat.zero_add, hl, List.take_length, List.drop_zero]
  exact hk
theorem src_frz {F : Hp} {rs : RL} {size m c : Nat} {p : Option Addr} {cs : List Value} (hl : cs.length = m * size) (h : Frow F p cs) : SrcIs F rs size (some (.v (.slice p m c))) m (cs.map .v) := fun k hk => by
  simp only [srcV]
  exact ⟨cs, hl, h, hk⟩
theorem src_str {F : Hp} {rs : RL} {l : List UInt8} : SrcIs F rs 1 (some (.v (S l))) l.length (l.map fun b => .v (.int .u8 (b.toNat : Int))) := fun k hk => by
  simp only [srcV]
  exact ⟨trivial, hk⟩
theorem one_v (rs : RL) {l : List Value} (h : ∀ x ∈ l, one (.v x) = true) : oneAll rs (l.map .v) := fun e he => by
  obtain ⟨x, hx, rfl⟩ := List.mem_map.1 he
  exact ⟨h x hx, x, rfl⟩
theorem s_appR {d : Nat} {x y : Operand} {t1 t2 e : TypeId} {ty : TypeId} {pos : String} {af : Array Edge} {env : Env} {F : Hp} {rs rs' : RL} {nx id n c cap : Nat} {blk : Option Nat} {cells : List EV} {ti : TI} {m : Nat} {news : List EV} (ht : tk tb t1 = some (.slice e)) (ht2 : srcTy (tk tb t2) = true) (hi : tb e = some ti) (h0 : (Nat.blt 0 ti.size && Nat.blt 0 ti.bytes && Nat.beq ti.zero.length ti.size) = true)
    (hx : opd rs [] env [] x = some (.row id 0 n c)) (hr : lkR rs id = some ⟨blk, cells, e, cap⟩) (hrs : forceL (delR rs id) = some rs') (hd : Nat.blt d N = true) (hsrc : SrcIs F rs ti.size (opd rs [] env [] y) m news) (hone : oneAll rs news) (hok : blk = none → n = 0 ∧ c = 0) (hnc : n ≤ c) (hcap : cap = c * ti.size) (hcl : n * ti.size ≤ cells.length)
    (hby : (n + m) * ti.bytes ≤ 140737488355328)
    (k0 : m = 0 → vcOps P tb N false all rest K [] ⟨(d, .row id 0 n c) :: env, F, rs, nx⟩)
    (k : 0 < m → ∀ b cap, n + m ≤ cap → vcOps P tb N false all rest K [] ⟨(d, .row nx 0 (n + m) cap) :: env, F, (nx, ⟨some b, cells.take (n * ti.size) ++ news, e, cap * ti.size⟩) :: rs', nx + 1⟩) :
    vcOps P tb N false all (⟨some d, .call ⟨.builtin .append, #[x, y], #[t1, t2]⟩, ty, pos, af, none⟩ :: rest) K [] ⟨env, F, rs, nx⟩ := by
  have hd' : d < N := by simpa using hd
  simp only [Bool.and_eq_true, Nat.blt_eq, Nat.beq_eq] at h0
  obtain ⟨⟨h1, h2⟩, h3⟩ := h0
  rw [forceL_eq, Option.some.injEq] at hrs
  subst hrs
  refine .inr (.inl ⟨rfl, x, y, t1, t2, rfl, rfl, ?_⟩)
  simp only [ht, appV, ht2, hi, appS, true_and]
  refine ⟨h1, h2, h3, hsrc _ ⟨hone, ?_⟩⟩
  simp only [hx, appD, hr]
  cases blk with
  | none =>
    obtain ⟨rfl, rfl⟩ := hok rfl
    simp only [appR, appK, putV, Nat.zero_add]
    simp only [Nat.zero_add, Nat.zero_mul, List.take_zero, List.nil_append] at k hby
    exact ⟨trivial, trivial, fun hm => ⟨hd', k0 hm⟩, fun hm => ⟨fun _ => hby, fun b cap hc _ => ⟨hd', k hm b cap hc⟩⟩⟩
  | some b0 =>
    simp only [appR, appK, putV]
    exact ⟨trivial, hnc, hcap, hcl, fun hm => ⟨hd', k0 hm⟩, fun hm => ⟨fun _ => hby, fun b cap hc _ => ⟨hd', k hm b cap hc⟩⟩⟩
theorem s_appV {d : Nat} {x y : Operand} {t1 t2 e : TypeId} {ty : TypeId} {pos : String} {af : Array Edge} {env : Env} {F : Hp} {rs : RL} {nx n : Nat} {p : Option Addr} {ti : TI} {m : Nat} {news : List EV} (cs : List Value) (ht : tk tb t1 = some (.slice e)) (ht2 : srcTy (tk tb t2) = true) (hi : tb e = some ti) (h0 : (Nat.blt 0 ti.size && Nat.blt 0 ti.bytes && Nat.beq ti.zero.length ti.size) = true)
    (hx : opd rs [] env [] x = some (.v (.slice p n n))) (hd : Nat.blt d N = true) (hcl : cs.length = n * ti.size) (hfr : Frow F p cs) (hsrc : SrcIs F rs ti.size (opd rs [] env [] y) m news) (hone : oneAll rs news)
    (hby : (n + m) * ti.bytes ≤ 140737488355328)
    (k0 : m = 0 → vcOps P tb N false all rest K [] ⟨(d, .v (.slice p n n)) :: env, F, rs, nx⟩)
    (k : 0 < m → ∀ b cap, n + m ≤ cap → vcOps P tb N false all rest K [] ⟨(d, .row nx 0 (n + m) cap) :: env, F, (nx, ⟨some b, cs.map .v ++ news, e, cap * ti.size⟩) :: rs, nx + 1⟩) :
    vcOps P tb N false all (⟨some d, .call ⟨.builtin .append, #[x, y], #[t1, t2]⟩, ty, pos, af, none⟩ :: rest) K [] ⟨env, F, rs, nx⟩ := by
  have hd' : d < N := by simpa using hd
  simp only [Bool.and_eq_true, Nat.blt_eq, Nat.beq_eq] at h0
  obtain ⟨⟨h1, h2⟩, h3⟩ := h0
  refine .inr (.inl ⟨rfl, x, y, t1, t2, rfl, rfl, ?_⟩)
  simp only [ht, appV, ht2, hi, appS, true_and]
  refine ⟨h1, h2, h3, hsrc _ ⟨hone, ?_⟩⟩
  simp only [hx, appD, appF, appK, putV, true_and]
  exact ⟨cs, hcl, hfr, fun hm => ⟨hd', k0 hm⟩, fun hm => ⟨fun _ => hby, fun b cap hc _ => ⟨hd', k hm b cap hc⟩⟩⟩

/-! Bytes read as a string. -/
theorem s_strR {d : Nat} {x : Operand} {s t : TypeId} {ty : TypeId} {pos : String} {af : Array Edge} {env : Env} {F : Hp} {rs : RL} {nx id m c b cap : Nat} {cells : List EV} {tyb : TypeId} (bs : List UInt8) (hs : (isByteSlice tb (tk tb s) && isStr (tk tb t)) = true) (hx : opd rs [] env [] x = some (.row id 0 m c)) (hr : lkR rs id = some ⟨some b, cells, tyb, cap⟩) (hd : Nat.blt d N = true)
    (hm : m ≤ cells.length) (hc : cells.take m = bs.map fun b => .v (.int .u8 (b.toNat : Int)))
    (k : vcOps P tb N false all rest K [] ⟨(d, .v (S bs)) :: env, F, rs, nx⟩) : vcOps P tb N false all (⟨some d, .convert s t x, ty, pos, af, none⟩ :: rest) K [] ⟨env, F, rs, nx⟩ := by
  have hd' : d < N := by simpa using hd
  simp only [Bool.and_eq_true] at hs
  refine .inr (.inl ⟨rfl, hs.1, hs.2, ?_⟩)
  simp only [hx, strV, hr, srcR, Nat.mul_one, Nat.zero_add, List.drop_zero, putV]
  exact ⟨hm, bs, hc, hd', k⟩

/-! Calls that make memory. -/
theorem s_call {d : Nat} {f : Operand} {args : Array Operand} {ts : Array TypeId} {n : FuncId} {first captured : Array Value} {xs ys : List Value} {ty : TypeId} {pos : String} {af : Array Edge} {env : Env} {F : Hp} {rs : RL} {nx : Nat} {Q : Value → Hp → RL → Prop}
    (hf : opd rs [] env [] f = some (.v (.func (.func n) first captured))) (hx : vals rs (opd rs [] env []) args.toList = some xs) (hy' : forceL (first.toList ++ xs ++ captured.toList) = some ys) (hb : bodied P n) (hd : Nat.blt d N = true) (hc : CallOK P F n ys Q)
    (k : ∀ x F' new, F.sub F' → Q x F' new → ∃ (m : Nat) (e : EV), (∀ id r, lkR new id = some r → id < m ∧ ∀ e ∈ r.cells, e.lt m) ∧ e.val new = some x ∧ vcOps P tb N false all rest K [] ⟨(d, shiftE nx e) :: env, F', shiftR nx new ++ rs, nx + m⟩) :
    vcOps P tb N false all (⟨some d, .call ⟨.value f, args, ts⟩, ty, pos, af, none⟩ :: rest) K [] ⟨env, F, rs, nx⟩ := by
  have hd' : d < N := by simpa using hd
  rw [forceL_eq, Option.some.injEq] at hy'
  subst hy'
  refine .inl ?_
  simp only [opV, hf, hx, callGo]
  refine ⟨hb, VS.id ⟨Q, hc, fun x F' new h1 h2 => ?_⟩⟩
  obtain ⟨m, e, h3, h4, h5⟩ := k x F' new h1 h2
  exact ⟨m, e, h3, h4, by simp only [putV]; exact ⟨hd', h5⟩⟩
/-- What comes back is frozen. -/
abbrev CallF (P : Program) (F : Hp) (f : FuncId) (args : List Value) (Q : Value → Hp → Prop) : Prop := CallOK P F f args fun x F' new => new = [] ∧ Q x F'
theorem s_callF {d : Nat} {f : Operand} {args : Array Operand} {ts : Array TypeId} {n : FuncId} {first captured : Array Value} {xs ys : List Value} {ty : TypeId} {pos : String} {af : Array Edge} {env : Env} {F : Hp} {rs : RL} {nx : Nat} {Q : Value → Hp → Prop}
    (hf : opd rs [] env [] f = some (.v (.func (.func n) first captured))) (hx : vals rs (opd rs [] env []) args.toList = some xs) (hy' : forceL (first.toList ++ xs ++ captured.toList) = some ys) (hb : bodied P n) (hd : Nat.blt d N = true) (hc : CallF P F n ys Q)
    (k : ∀ x F', F.sub F' → Q x F' → vcOps P tb N false all rest K [] ⟨(d, .v x) :: env, F', rs, nx⟩) :
    vcOps P tb N false all (⟨some d, .call ⟨.value f, args, ts⟩, ty, pos, af, none⟩ :: rest) K [] ⟨env, F, rs, nx⟩ :=
  s_call hf hx hy' hb hd hc fun x F' new h1 h2 => by
    obtain ⟨rfl, h3⟩ := h2
    exact ⟨0, .v x, fun id r h => by simp [lkR] at h, rfl, k x F' h1 h3⟩
/-- What comes back is a row of the caller's own, or an empty slice. -/
def RowBack (e : TypeId) (size : Nat) (cs : List Value) (n : Nat) (x : Value) (new : RL) : Prop :=
  (n = 0 ∧ new = [] ∧ ∃ p, x = .slice p 0 0) ∨ (0 < n ∧ ∃ b c, n ≤ c ∧ new = [(0, ⟨some b, cs.map .v, e, c * size⟩)] ∧ x = .slice (some ⟨b, 0, none⟩) n c)
theorem s_callR {d : Nat} {f : Operand} {args : Array Operand} {ts : Array TypeId} {n : FuncId} {first captured : Array Value} {xs ys : List Value} {ty : TypeId} {pos : String} {af : Array Edge} {env : Env} {F : Hp} {rs : RL} {nx : Nat} {e : TypeId} {size k : Nat} {Q : Value → Hp → RL → Prop} {R : Hp → List Value → Prop} (hQ : ∀ x F' new, Q x F' new → ∃ cs, RowBack e size cs k x new ∧ R F' cs)
    (hf : opd rs [] env [] f = some (.v (.func (.func n) first captured))) (hx : vals rs (opd rs [] env []) args.toList = some xs) (hy' : forceL (first.toList ++ xs ++ captured.toList) = some ys) (hb : bodied P n) (hd : Nat.blt d N = true) (hc : CallOK P F n ys Q)
    (k0 : k = 0 → ∀ F' p cs, F.sub F' → R F' cs → vcOps P tb N false all rest K [] ⟨(d, .v (.slice p 0 0)) :: env, F', rs, nx⟩)
    (k1 : 0 < k → ∀ F' b c cs, F.sub F' → k ≤ c → R F' cs → vcOps P tb N false all rest K [] ⟨(d, .row nx 0 k c) :: env, F', (nx, ⟨some b, cs.map .v, e, c * size⟩) :: rs, nx + 1⟩) :
    vcOps P tb N false all (⟨some d, .call ⟨.value f, args, ts⟩, ty, pos, af, none⟩ :: rest) K [] ⟨env, F, rs, nx⟩ :=
  s_call hf hx hy' hb hd hc fun x F' new h1 h2 => by
    obtain ⟨cs, h3, h4⟩ := hQ x F' new h2
    rcases h3 with ⟨h5, rfl, p, rfl⟩ | ⟨h5, b, c, h6, rfl, rfl⟩
    · exact ⟨0, .v _, fun id r h => by simp [lkR] at h, rfl, k0 h5 F' p cs h1 h4⟩
    · refine ⟨1, .row 0 0 k c, fun id r h => ?_, by simp only [EV.val, lkR_cons, if_true]; rfl, ?_⟩
      · rw [lkR_cons] at h
        split at h
        · rename_i h0
          simp only [Option.some.injEq] at h
          subst h h0
          refine ⟨Nat.zero_lt_one, fun e he => ?_⟩
          obtain ⟨u, _, rfl⟩ := List.mem_map.1 he
          trivial
        · simp [lkR] at h
      · have e1 : (cs.map EV.v).map (shiftE nx) = cs.map EV.v := by rw [List.map_map]; rfl
        have := k1 h5 F' b c cs h1 h6 h4
        simp only [shiftE, shiftR, shiftB, List.map_cons, List.map_nil, Nat.add_zero, e1, List.cons_append, List.nil_append]
        exact this
/-- A callee is walked in its place. -/
theorem s_inline {d : Nat} {f : Operand} {args : Array Operand} {ts : Array TypeId} {n : FuncId} {first captured : Array Value} {es : List EV} {ty : TypeId} {pos : String} {af : Array Edge} {env env' : Env} {F : Hp} {rs : RL} {nx : Nat} (htb : TbOK P tb) (hm : P.follows .mixedOrders = true)
    {fn : Func} (hfn : P.funcs[n]? = some fn) {code : Code} (hbody : fn.body = some code) {N' : Nat} (hn : fn.ntmps = N') {rv : List ResultVar} (hrv : fn.results.toList = rv)
    (hf : opd rs [] env [] f = some (.v (.func (.func n) first captured))) (he : evs (opd rs [] env []) args.toList = some es) (henv : paramE 0 (first.toList.map EV.v ++ es ++ captured.toList.map EV.v) = env') (hN : Nat.ble (first.toList.map EV.v ++ es ++ captured.toList.map EV.v).length N' = true) (hb : bodied P n) (hd : Nat.blt d N = true)
    (k : vc P tb N' code (retI N' tb rv (fun e F' rs' nx' => vcOps P tb N false all rest K [] ⟨(d, e) :: env, F', rs', nx'⟩)) ⟨env', F, rs, nx⟩) :
    vcOps P tb N false all (⟨some d, .call ⟨.value f, args, ts⟩, ty, pos, af, none⟩ :: rest) K [] ⟨env, F, rs, nx⟩ := by
  have hd' : d < N := by simpa using hd
  subst hn hrv henv
  refine .inr (.inl ⟨rfl, ?_⟩)
  simp only [memV, hf, he, inGo]
  refine ⟨hb, _, callin_of_vc htb hm hfn hbody hN k, fun e F' rs' nx' _ _ h => ?_⟩
  simp only [putE, putV]
  exact ⟨hd', h⟩
theorem s_inend {rv : List ResultVar} {Q : EV → Hp → RL → Nat → Prop} {e : EV} (h : resE tb st rv = some e) (k : Q e st.F st.rs st.nx) : retI N tb rv Q .ret st := VS.id ⟨e, h, k⟩
theorem s_inendn {rv : List ResultVar} {Q : EV → Hp → RL → Nat → Prop} {e : EV} (h : resE tb st rv = some e) (k : Q e st.F st.rs st.nx) : retI N tb rv Q .normal st := VS.id ⟨e, h, k⟩

/-! The end of a function that hands memory over. -/
theorem s_retG {rv : List ResultVar} {Q : Value → Hp → RL → Prop} (h : VS N [] st fun st' => ∃ xs, resV tb st' rv = some xs ∧ Q (tupV xs) st'.F st'.rs) : retG N tb rv Q .ret st := fun c a w _ hs => h c a w hs
theorem s_retGf {rv : List ResultVar} {Q : Value → Hp → RL → Prop} (h : VSf 0 N [] st fun st' => ∃ xs, resV tb st' rv = some xs ∧ Q (tupV xs) st'.F st'.rs) : retG N tb rv Q .ret st := h

/-! A region's schedule. -/
theorem s_stop {ops : Array Oper} {kept : List Nat} {K : St → Prop} {m f : Nat} {done : Array Bool} (h : Region.ready .any ops done = []) (k : K st) : vcAny P tb N ops kept K (m + 1) f done g st := .inl ⟨h, VS.id k⟩
theorem s_firsts {ops : Array Oper} {kept : List Nat} {K : St → Prop} {m f' : Nat} {done : Array Bool} {env : Env} {F : Hp} {rs rsm : RL} {nx : Nat} (is : List Nat) {l lo : List Oper} (hB : firstsB .any ops done is = true) (hlo : ops.toList = lo) (hl : sel lo is = some l) (hm : mask kept rs = rsm) (k : vcOps P tb N true lo l (backK rs (vcAny P tb N ops kept K m f' (setAll done is))) g ⟨env, F, rsm, nx⟩) :
    vcAny P tb N ops kept K (m + 1) (f' + is.length) done g ⟨env, F, rs, nx⟩ := by
  subst hm hlo
  exact .inr (.inl ⟨f', is, l, rfl, hB, hl, k⟩)
theorem s_back {env : Env} {F : Hp} {rs rs' : RL} {nx : Nat} (k : K g ⟨env, F, rs, nx⟩) : backK rs K g ⟨env, F, rs', nx⟩ := k
theorem s_one {ops : Array Oper} {kept : List Nat} {K : St → Prop} {m f' : Nat} {done : Array Bool} {lo : List Oper} (i : Nat) {o : Oper} (hr : Region.ready .any ops done = [i]) (hlo : ops.toList = lo) (ho : lo[i]? = some o) (k : vcOps P tb N false lo [o] (brK kept st.F st.rs (vcAny P tb N ops kept K m f' (done.setIfInBounds i true))) g st) :
    vcAny P tb N ops kept K (m + 1) (f' + 1) done g st := by
  subst hlo
  refine .inr (.inr ⟨f', rfl, by rw [hr]; simp, fun j hj => ?_⟩)
  rw [hr, List.mem_singleton] at hj
  subst hj
  obtain ⟨d, op, ty, pos, af, gd⟩ := o
  exact ⟨⟨d, op, ty, pos, af, gd⟩, by simpa using ho, k⟩
theorem s_two {ops : Array Oper} {kept : List Nat} {K : St → Prop} {m f' : Nat} {done : Array Bool} {lo : List Oper} (i j : Nat) {o o' : Oper} (hr : Region.ready .any ops done = [i, j]) (hlo : ops.toList = lo) (ho : lo[i]? = some o) (ho' : lo[j]? = some o') (k : vcOps P tb N false lo [o] (brK kept st.F st.rs (vcAny P tb N ops kept K m f' (done.setIfInBounds i true))) g st)
    (k' : vcOps P tb N false lo [o'] (brK kept st.F st.rs (vcAny P tb N ops kept K m f' (done.setIfInBounds j true))) g st) : vcAny P tb N ops kept K (m + 1) (f' + 1) done g st := by
  subst hlo
  refine .inr (.inr ⟨f', rfl, by rw [hr]; simp, fun q hq => ?_⟩)
  rw [hr] at hq
  obtain ⟨d, op, ty, pos, af, gd⟩ := o
  obtain ⟨d', op', ty', pos', af', gd'⟩ := o'
  simp only [List.mem_cons, List.not_mem_nil, or_false] at hq
  rcases hq with rfl | rfl
  · exact ⟨⟨d, op, ty, pos, af, gd⟩, by simpa using ho, k⟩
  · exact ⟨⟨d', op', ty', pos', af', gd'⟩, by simpa using ho', k'⟩
theorem s_br {kept : List Nat} {F : Hp} {rs : RL} (h1 : F.sub st.F) (h2 : keptOK rs st.rs kept) (k : K g st) : brK kept F rs K g st := ⟨⟨h1, h2⟩, k⟩
end
end Go.TR
/-!
A small program logic of our own for the model. Part n: a block of the call's own is frozen: from then on it belongs to the part of memory that nobody writes; the nil slice as a row. Nothing here speaks of one program.
-/
namespace Go.TR
section
variable {N : Nat}

/-- What stood for the block, or a place in it, is an address now. -/
def frzE (b id : Nat) : EV → EV
  | .v x => .v x
  | .loc i o => match Nat.beq i id with
    | true => .v (.pointer (some ⟨b, o, none⟩))
    | false => .loc i o
  | .row i o n c => match Nat.beq i id with
    | true => .v (.slice (some ⟨b, o, none⟩) n c)
    | false => .row i o n c
def frzL (b id : Nat) : List EV → List EV
  | [] => []
  | e :: t => frzE b id e :: frzL b id t
def frzR (b id : Nat) : RL → RL
  | [] => []
  | (m, ⟨bb, cells, ty, cap⟩) :: t => match Nat.beq m id with
    | true => frzR b id t
    | false => (m, ⟨bb, frzL b id cells, ty, cap⟩) :: frzR b id t
def frzN (b id : Nat) : Env → Env
  | [] => []
  | (n, e) :: t => (n, frzE b id e) :: frzN b id t
theorem frzL_map (b id : Nat) : ∀ l : List EV, frzL b id l = l.map (frzE b id)
  | [] => rfl
  | e :: t => by simp only [frzL, List.map_cons, frzL_map b id t]
theorem beq_false {m n : Nat} (h : m ≠ n) : Nat.beq m n = false := by cases hb : Nat.beq m n with | false => rfl | true => exact absurd (Nat.eq_of_beq_eq_true hb) h
theorem lkR_frz {b id : Nat} {rs : RL} {k : Nat} : lkR (frzR b id rs) k = if k = id then none else (lkR rs k).map fun r => ⟨r.blk, frzL b id r.cells, r.ty, r.cap⟩ := by
  induction rs with
  | nil => simp [frzR, lkR]
  | cons p rs ih =>
    obtain ⟨m, ⟨bb, cells, ty, cap⟩⟩ := p
    simp only [frzR]
    by_cases hm : m = id
    · subst hm
      simp only [Nat.beq_refl]
      rw [ih, lkR_cons]
      by_cases hk : k = m <;> simp [hk]
    · rw [beq_false hm]
      simp only []
      rw [lkR_cons, ih, lkR_cons]
      by_cases hk : k = m
      · subst hk; simp [hm]
      · simp only [if_neg hk]
theorem lk_frz {b id : Nat} {env : Env} {k : Nat} : lk (frzN b id env) k = (lk env k).map (frzE b id) := by
  induction env with
  | nil => rfl
  | cons p env ih =>
    obtain ⟨m, e⟩ := p
    simp only [frzN]
    rw [lk_cons, ih, lk_cons]
    by_cases hk : k = m <;> simp [hk]
theorem val_frz {id b : Nat} {rs : RL} {r : Blk} (hr : lkR rs id = some r) (hb : r.blk = some b) (e : EV) (x : Value) (hx : (frzE b id e).val (frzR b id rs) = some x) : e.val rs = some x := by
  cases e with
  | v y => exact hx
  | loc i o =>
    by_cases hi : i = id
    · subst hi
      simp only [frzE, Nat.beq_refl, EV.val] at hx
      simp only [EV.val, hr, hb]
      exact hx
    · simp only [frzE, beq_false hi, EV.val, lkR_frz, if_neg hi] at hx
      simp only [EV.val]
      cases hk : lkR rs i with
      | none => simp [hk] at hx
      | some s => rw [hk] at hx; exact hx
  | row i o n c =>
    by_cases hi : i = id
    · subst hi
      simp only [frzE, Nat.beq_refl, EV.val] at hx
      simp only [EV.val, hr, hb]
      exact hx
    · simp only [frzE, beq_false hi, EV.val, lkR_frz, if_neg hi] at hx
      simp only [EV.val]
      cases hk : lkR rs i with
      | none => simp [hk] at hx
      | some s => rw [hk] at hx; exact hx
theorem lt_frz {b id nx : Nat} {e : EV} (h : e.lt nx) : (frzE b id e).lt nx := by
  cases e with
  | v x => trivial
  | loc i o => simp only [frzE]; split <;> first | trivial | exact h
  | row i o n c => simp only [frzE]; split <;> first | trivial | exact h
end
section
variable {N : Nat}
/-- The heap with one more frozen block. -/
def Hp.plus (F : Hp) (b : Nat) (o : Obj) : Hp := fun k => if k = b then some o else F k
theorem frz_at {b id : Nat} {r : Blk} {b' : Nat} (h : (⟨r.blk, frzL b id r.cells, r.ty, r.cap⟩ : Blk).at b') : r.at b' := by
  rcases h with h | ⟨h1, h0, h2⟩
  · exact .inl h
  · refine .inr ⟨h1, h0, ?_⟩
    simp only [frzL_map, List.map_eq_singleton_iff] at h2
    obtain ⟨e, he, h3⟩ := h2
    rw [he]
    cases e with
    | v x => exact congrArg (fun e => [e]) h3
    | loc i o => simp only [frzE] at h3; split at h3 <;> cases h3
    | row i o n c => simp only [frzE] at h3; split at h3 <;> cases h3
theorem freeze_sat {c : Ctx} {env : Env} {F : Hp} {rs : RL} {nx : Nat} {a : Act} {w : World} (h : GSat c N [] ⟨env, F, rs, nx⟩ a w) {id : Nat} {r : Blk} {b : Nat} (hr : lkR rs id = some r) (hb : r.blk = some b) {cs : List Value} (hcs : allV rs r.cells = some cs) :
    ∃ F', F.sub F' ∧ Frow F' (some ⟨b, 0, none⟩) cs ∧ GSat c N [] ⟨frzN b id env, F', frzR b id rs, nx⟩ a w := by
  have hown := h.wok.own.own id r hr
  rw [hb] at hown
  obtain ⟨o1, o2, cur, o3, o4, o5⟩ := hown
  have o1 : F b = none := o1
  have hsub : F.sub (F.plus b (.cells cur r.ty (0, 0))) := fun k o e => by
    unfold Hp.plus
    rw [if_neg (by rintro rfl; rw [o1] at e; cases e)]
    exact e
  have hv : ∀ e x, (frzE b id e).val (frzR b id rs) = some x → e.val rs = some x := fun e x hx => val_frz hr hb e x hx
  have hlk : ∀ {k s}, lkR (frzR b id rs) k = some s → k ≠ id ∧ ∃ s0, lkR rs k = some s0 ∧ s = ⟨s0.blk, frzL b id s0.cells, s0.ty, s0.cap⟩ := fun {k s} hs => by
    rw [lkR_frz] at hs
    split at hs
    · cases hs
    · rename_i hk
      rw [Option.map_eq_some_iff] at hs
      obtain ⟨s0, h1, h2⟩ := hs
      exact ⟨hk, s0, h1, h2.symm⟩
  refine ⟨F.plus b (.cells cur r.ty (0, 0)), hsub, fun j u hj => ?_, ?_⟩
  · obtain ⟨e, he, hx⟩ := (allV_spec hcs).2 j u hj
    have := o5 j e u he hx
    simp only [padd, Option.map_some, Pcell, Option.bind_some, addr_add0, Nat.zero_add, Fcell, Hp.plus, if_true]
    simpa using this
  · exact {
      size := h.size
      defers := h.defers
      wok := {
        le := fun k o e => by
          have e : (if k = b then some (.cells cur r.ty (0, 0)) else F k) = some o := e
          by_cases hk : k = b
          · subst hk
            rw [if_pos rfl] at e
            rw [← e]; exact o3
          · rw [if_neg hk] at e
            exact h.wok.le k o e
        own := {
          own := fun k s hs => by
            obtain ⟨hk, s0, h1, rfl⟩ := hlk hs
            have h2 := h.wok.own.own k s0 h1
            cases hsb : s0.blk with
            | none =>
              rw [hsb] at h2
              simp only
              exact ⟨h2.1.elim (fun e => .inl (by rw [e]; rfl)) (fun ⟨e0, b, e⟩ => .inr ⟨e0, b, by rw [e]; rfl⟩), h2.2⟩
            | some b' =>
              rw [hsb] at h2
              simp only
              obtain ⟨g1, g2, cur', g3, g4, g5⟩ := h2
              have hne : b' ≠ b := by
                rintro rfl
                exact hk (h.wok.own.apart k id s0 r _ h1 hr hsb hb)
              refine ⟨by unfold Hp.plus; rw [if_neg hne]; exact g1, by rw [frzL_map, List.length_map]; exact g2, cur', g3, g4, fun j ev x hj hx => ?_⟩
              rw [frzL_map, List.getElem?_map, Option.map_eq_some_iff] at hj
              obtain ⟨e0, h5, rfl⟩ := hj
              exact g5 j e0 x h5 (hv e0 x hx)
          apart := fun i j s t b' hi hj hs ht => by
            obtain ⟨_, s0, h1, rfl⟩ := hlk hi
            obtain ⟨_, t0, h2, rfl⟩ := hlk hj
            exact h.wok.own.apart i j s0 t0 b' h1 h2 hs ht }
        pres := h.wok.pres
        new := fun k s b' hs hsb => by
          obtain ⟨_, s0, h1, rfl⟩ := hlk hs
          exact h.wok.new k s0 b' h1 (frz_at hsb)
        fnew := fun k hk => by
          have hk : (if k = b then some (.cells cur r.ty (0, 0)) else F k).isSome = true := hk
          by_cases he : k = b
          · subst he
            exact .inr (h.wok.new id r _ hr (.inl hb))
          · rw [if_neg he] at hk
            exact h.wok.fnew k hk
        sz := h.wok.sz
        tp := h.wok.tp }
      hist := {
        sub := h.hist.sub.trans hsub
        nxle := h.hist.nxle
        succ := fun k s hk hs => by
          obtain ⟨_, s0, h1, rfl⟩ := hlk hs
          exact h.hist.succ k s0 hk h1 }
      rids := fun k s hs => by
        obtain ⟨_, s0, h1, rfl⟩ := hlk hs
        obtain ⟨h2, h3⟩ := h.rids k s0 h1
        refine ⟨h2, fun e he => ?_⟩
        simp only [frzL_map, List.mem_map] at he
        obtain ⟨e0, h4, rfl⟩ := he
        exact lt_frz (h3 e0 h4)
      ids := fun n e he => by
        simp only [lk_frz, Option.map_eq_some_iff] at he
        obtain ⟨e0, h1, rfl⟩ := he
        exact lt_frz (h.ids n e0 h1)
      env := fun n e x _ he hx => by
        simp only [lk_frz, Option.map_eq_some_iff] at he
        obtain ⟨e0, h1, rfl⟩ := he
        exact h.env n e0 x rfl h1 (hv e0 x hx)
      gv := fun n ch e he => by simp [lkG] at he }
/-- The slots that are named alone, one by one. -/
def keepN (env : Env) : List Nat → Option Env
  | [] => some []
  | n :: t => match Go.TR.lk env n with
    | some (.v (.slice p n' c')) => (match keepN env t with
      | some l => some ((n, .v (.slice (p) n' c')) :: l)
      | none => none)
    | some (.v (.pointer p)) => (match keepN env t with
      | some l => some ((n, .v (.pointer (p))) :: l)
      | none => none)
    | some (.v x) => (match keepN env t with
      | some l => some ((n, .v x) :: l)
      | none => none)
    | some (.loc i o) => (match keepN env t with
      | some l => some ((n, .loc i o) :: l)
      | none => none)
    | some (.row i o n' c') => (match keepN env t with
      | some l => some ((n, .row i o n' c') :: l)
      | none => none)
    | none => none
theorem keepN_lk : ∀ {slots : List Nat} {env env' : Env}, keepN env slots = some env' → ∀ n e, lk env' n = some e → lk env n = some e
  | [], env, env', h, n, e, he => by simp only [keepN, Option.some.injEq] at h; subst h; simp [lk] at he
  | m :: t, env, env', h, n, e, he => by
    have step : ∀ {x : EV} {l : Env}, lk env m = some x → keepN env t = some l → lk ((m, x) :: l) n = some e → lk env n = some e := fun {x l} hx hl hk => by
      rw [lk_cons] at hk
      split at hk
      · rename_i hn
        subst hn
        rw [hx]; exact hk
      · exact keepN_lk hl n e hk
    simp only [keepN] at h
    split at h <;> first | (simp at h; done) | skip
    all_goals
      rename_i hx
      split at h <;> first | (simp at h; done) | skip
      rename_i l hl
      simp only [Option.some.injEq] at h
      subst h
      exact step hx hl he
theorem keepN_sat {c : Ctx} {env env' : Env} {F : Hp} {rs : RL} {nx : Nat} {a : Act} {w : World} {slots : List Nat} (hk : keepN env slots = some env') (h : GSat c N [] ⟨env, F, rs, nx⟩ a w) : GSat c N [] ⟨env', F, rs, nx⟩ a w where
  size := h.size
  defers := h.defers
  wok := h.wok
  hist := h.hist
  rids := h.rids
  ids := fun n e he => h.ids n e (keepN_lk hk n e he)
  env := fun n e x hg he hx => h.env n e x hg (keepN_lk hk n e he) hx
  gv := fun n ch e he => by simp [lkG] at he
theorem VS.keepN {env env' : Env} {F : Hp} {rs : RL} {nx : Nat} {G : St → Prop} (slots : List Nat) (h : keepN env slots = some env') (k : G ⟨env', F, rs, nx⟩) : VS N [] ⟨env, F, rs, nx⟩ G := fun _ _ _ hs => ⟨_, keepN_sat h hs, k⟩
/-- A block is frozen; the slots that are named are kept. -/
theorem VS.freeze {env env' : Env} {F : Hp} {rs rs' : RL} {nx : Nat} {G : St → Prop} (id : Nat) {b : Nat} {cells : List EV} {ty : TypeId} {cap : Nat} {cs : List Value} (slots : List Nat) (hr : lkR rs id = some ⟨some b, cells, ty, cap⟩) (hcs : allV rs cells = some cs) (hrs : forceL (frzR b id rs) = some rs') (henv : Go.TR.keepN (frzN b id env) slots = some env')
    (k : ∀ F', F.sub F' → Frow F' (some ⟨b, 0, none⟩) cs → VS N [] ⟨env', F', rs', nx⟩ G) : VS N [] ⟨env, F, rs, nx⟩ G := by
  intro c a w hs
  obtain ⟨F', h1, h2, h3⟩ := freeze_sat hs hr rfl hcs
  rw [forceL_eq, Option.some.injEq] at hrs
  subst hrs
  exact k F' h1 h2 c a w (keepN_sat henv h3)
theorem VS.done {G : St → Prop} {st : St} (k : G st) : VS N [] st G := VS.id k
/-- Names of blocks that are of no use any more go. -/
def dropR (ids : List Nat) : RL → RL
  | [] => []
  | (m, r) :: t => match ids.contains m with
    | true => dropR ids t
    | false => (m, r) :: dropR ids t
theorem lkR_drop' {ids : List Nat} {rs : RL} {k : Nat} : lkR (dropR ids rs) k = if k ∈ ids then none else lkR rs k := by
  induction rs with
  | nil => simp [dropR, lkR]
  | cons p rs ih =>
    obtain ⟨m, s⟩ := p
    simp only [dropR]
    split
    · rename_i hc
      rw [ih, lkR_cons]
      by_cases hk : k = m
      · subst hk; rw [if_pos (by simpa using hc), if_pos (by simpa using hc)]
      · simp only [if_neg hk]
    · rename_i hc
      rw [lkR_cons, ih, lkR_cons]
      by_cases hk : k = m
      · subst hk; rw [if_pos rfl, if_neg (by simpa using hc), if_pos rfl]
      · simp only [if_neg hk]
theorem sub_sat {c : Ctx} {env : Env} {F : Hp} {rs rs' : RL} {nx : Nat} {a : Act} {w : World} (h : GSat c N [] ⟨env, F, rs, nx⟩ a w) (hsub : ∀ k r, lkR rs' k = some r → lkR rs k = some r) : GSat c N [] ⟨env, F, rs', nx⟩ a w where
  size := h.size
  defers := h.defers
  wok := {
    le := h.wok.le
    own := {
      own := fun id r hr => by
        have h1 := h.wok.own.own id r (hsub _ _ hr)
        cases hb : r.blk with
        | none => rw [hb] at h1; exact h1
        | some b =>
          rw [hb] at h1
          obtain ⟨g1, g2, cur, g3, g4, g5⟩ := h1
          exact ⟨g1, g2, cur, g3, g4, fun j ev x hj hx => g5 j ev x hj (val_sub hsub hx)⟩
      apart := fun i j r s b hi hj => h.wok.own.apart i j r s b (hsub _ _ hi) (hsub _ _ hj) }
    pres := h.wok.pres
    new := fun id r b hr => h.wok.new id r b (hsub _ _ hr)
    fnew := h.wok.fnew
    sz := h.wok.sz
    tp := h.wok.tp }
  hist := ⟨h.hist.sub, h.hist.nxle, fun id r hid hr => h.hist.succ id r hid (hsub _ _ hr)⟩
  rids := fun id r hr => h.rids id r (hsub _ _ hr)
  ids := h.ids
  env := fun n e x hg he hx => h.env n e x hg he (val_sub hsub hx)
  gv := fun n ch e he => by simp [lkG] at he
theorem VS.dropR {env : Env} {F : Hp} {rs rs' : RL} {nx : Nat} {G : St → Prop} (ids : List Nat) (hrs : forceL (Go.TR.dropR ids rs) = some rs') (k : VS N [] ⟨env, F, rs', nx⟩ G) : VS N [] ⟨env, F, rs, nx⟩ G := by
  intro c a w hs
  rw [forceL_eq, Option.some.injEq] at hrs
  subst hrs
  exact k c a w (sub_sat hs (fun k r hk => by
    rw [lkR_drop'] at hk
    split at hk
    · cases hk
    · exact hk))
/-- The nil slice as a row without a block. -/
theorem VS.nilrow {env env' : Env} {F : Hp} {rs : RL} {nx : Nat} {G : St → Prop} (s : Nat) (ty : TypeId) (slots : List Nat) (h : lk env s = some (.v (.slice none 0 0))) (henv : Go.TR.keepN env slots = some env') (k : VS N [] ⟨(s, .row nx 0 0 0) :: env', F, (nx, ⟨none, [], ty, 0⟩) :: rs, nx + 1⟩ G) : VS N [] ⟨env, F, rs, nx⟩ G := by
  intro c a w hs
  have hne : ∀ id r, lkR rs id = some r → id ≠ nx := fun id r hr => by have := (hs.rids id r hr).1; simp only at this; omega
  have h0 := hs.env s _ _ rfl h rfl
  refine k c a w ?_
  exact {
    size := hs.size
    defers := hs.defers
    wok := {
      le := hs.wok.le
      own := {
        own := fun id r hr => by
          rw [lkR_cons] at hr
          split at hr
          · simp only [Option.some.injEq] at hr
            subst hr
            exact ⟨.inl rfl, rfl⟩
          · have h1 := hs.wok.own.own id r hr
            cases hb : r.blk with
            | none => rw [hb] at h1; exact h1
            | some b =>
              rw [hb] at h1
              obtain ⟨g1, g2, cur, g3, g4, g5⟩ := h1
              refine ⟨g1, g2, cur, g3, g4, fun j ev x hj hx => ?_⟩
              rw [val_cons ((hs.rids id r hr).2 ev (List.mem_of_getElem? hj))] at hx
              exact g5 j ev x hj hx
        apart := fun i j r s b hi hj hb hs' => by
          rw [lkR_cons] at hi hj
          split at hi
          · simp only [Option.some.injEq] at hi; subst hi; cases hb
          · split at hj
            · simp only [Option.some.injEq] at hj; subst hj; cases hs'
            · exact hs.wok.own.apart i j r s b hi hj hb hs' }
      pres := hs.wok.pres
      new := fun id r b hr hb => by
        rw [lkR_cons] at hr
        split at hr
        · simp only [Option.some.injEq] at hr; subst hr; rcases hb with hb | ⟨_, _, hb⟩ <;> cases hb
        · exact hs.wok.new id r b hr hb
      fnew := hs.wok.fnew
      sz := hs.wok.sz
      tp := hs.wok.tp }
    hist := hs.hist.cons _
    rids := fun id r hr => by
      simp only [lkR_cons] at hr
      split at hr
      · simp only [Option.some.injEq] at hr
        subst hr
        exact ⟨by simp only; omega, fun e he => by cases he⟩
      · obtain ⟨h1, h2⟩ := hs.rids id r hr
        exact ⟨by simp only at h1 ⊢; omega, fun e he => (h2 e he).mono (Nat.le_succ _)⟩
    ids := fun n e he => by
      simp only [lk_cons] at he
      split at he
      · simp only [Option.some.injEq] at he; subst he; simp only [EV.lt]; omega
      · exact (hs.ids n e (keepN_lk henv n e he)).mono (Nat.le_succ _)
    env := fun n e x hg he hx => by
      simp only [lk_cons] at he
      split at he
      · rename_i hn
        subst hn
        simp only [Option.some.injEq] at he
        subst he
        simp only [EV.val, lkR_cons, if_true, Option.map_none, Option.some.injEq] at hx
        rw [h0, hx]
      · have hl := keepN_lk henv n e he
        rw [val_cons (hs.ids n e hl)] at hx
        exact hs.env n e x rfl hl hx
    gv := fun n ch e he => by simp [lkG] at he }
theorem VS.trans {G : St → Prop} {st : St} (h : VS N [] st (fun st' => VS N [] st' G)) : VS N [] st G := fun c a w hs => by
  obtain ⟨st', h1, h2⟩ := h c a w hs
  exact h2 c a w h1
end
section
variable {P : Program} {tb : Tb} {N : Nat} {KK : Exit → St → Prop} {st : St}
/-- Behind a round of a loop whose rounds are told of by a value of which something is known. -/
def loopPK {α : Type} (N kn : Nat) (Inv : α → Prop) (T : α → St) (μ : α → Nat) (i : α) (K : Exit → St → Prop) : Exit → St → Prop
  | .normal, st => VSf (min kn (T i).nx) N [] st fun st' => ∃ j, Inv j ∧ st' = T j ∧ μ j < μ i
  | .ret, st => VS N [] st (K .ret)
  | .exit j, st => VS N [] st (K (.exit j))
  | .goto j, st => K (.goto j) st
  | .panic c, st => K (.panic c) st
  | .outgrown, st => K .outgrown st
theorem loopPK_eq {α : Type} (kn : Nat) (Inv : α → Prop) (T : α → St) (μ : α → Nat) (i : α) (hi : Inv i) (K : Exit → St → Prop) : loopK N kn (fun s : { a // Inv a } => T s.1) (fun s => μ s.1) ⟨i, hi⟩ K = loopPK N kn Inv T μ i K := by
  funext e st
  cases e <;> simp only [loopK, loopPK]
  congr 1
  funext st'
  exact propext ⟨fun ⟨j, h1, h2⟩ => ⟨j.1, j.2, h1, h2⟩, fun ⟨j, h0, h1, h2⟩ => ⟨⟨j, h0⟩, h1, h2⟩⟩
/-- A loop whose rounds are told of by a value of which something is known. -/
theorem s_loopP {x : Code} {α : Type} (Inv : α → Prop) (T : α → St) (μ : α → Nat) (i : α) (hi : Inv i) (h0 : VS N [] st fun st' => st' = T i) (hr : ∀ i, Inv i → vc P tb N x (loopPK N st.nx Inv T μ i KK) (T i)) : vc P tb N (.loop x) KK st :=
  ⟨{ a // Inv a }, fun s => T s.1, fun s => μ s.1, fun c a w hs => by
    obtain ⟨st', h1, h2⟩ := h0 c a w hs
    exact ⟨st', h1, ⟨i, hi⟩, h2⟩, fun ⟨i, hi⟩ => by rw [loopPK_eq]; exact hr i hi⟩
/-- A loop that is left on several ways: what is told of the state behind it. -/
theorem s_loopJ {x : Code} {α β : Type} (id : Nat) (Inv : α → Prop) (T : α → St) (μ : α → Nat) (i : α) (JP : β → Prop) (J : β → St) (hi : Inv i) (h0 : VS N [] st fun st' => st' = T i) (hJ : ∀ b, JP b → KK (.exit id) (J b))
    (hr : ∀ i, Inv i → ∀ KK2 : Exit → St → Prop, (∀ st', (VSf (min st.nx (T i).nx) N [] st' fun st' => ∃ j, Inv j ∧ st' = T j ∧ μ j < μ i) → KK2 .normal st') → (∀ st, (VS N [] st fun st' => ∃ b, JP b ∧ st' = J b) → KK2 (.exit id) st) → (∀ st, KK .ret st → KK2 .ret st) → vc P tb N x KK2 (T i)) : vc P tb N (.loop x) KK st :=
  s_loopP Inv T μ i hi h0 fun i hi => hr i hi _ (fun st h => h) (fun st h c a w hs => by
    obtain ⟨st', h1, b, h2, rfl⟩ := h c a w hs
    exact ⟨_, h1, hJ b h2⟩) (fun st h => VS.id h)
theorem s_loopPn {α : Type} {kn : Nat} {Inv : α → Prop} {T : α → St} {μ : α → Nat} {i : α} (j : α) (hj : Inv j) (hm : μ j < μ i) (h : VS N [] st fun st' => st' = T j) : loopPK N kn Inv T μ i KK .normal st := fun c a w _ hs => by
  obtain ⟨st', h1, h2⟩ := h c a w hs
  exact ⟨st', h1, j, hj, h2, hm⟩
theorem VSf.of {k : Nat} {G : St → Prop} (h : VS N [] st G) : VSf k N [] st G := fun c a w _ hs => h c a w hs
def ltB (n : Nat) : EV → Bool
  | .v _ => true
  | .loc id _ => Nat.blt id n
  | .row id _ _ _ => Nat.blt id n
def envLt (n : Nat) : Env → Bool
  | [] => true
  | (_, e) :: t => ltB n e && envLt n t
def rlLt (n : Nat) : RL → Prop
  | [] => True
  | (id, r) :: t => (id < n ∧ ∀ e ∈ r.cells, e.lt n) ∧ rlLt n t
theorem ltB_lt {n : Nat} {e : EV} (h : ltB n e = true) : e.lt n := by
  cases e <;> simp only [ltB, Nat.blt_eq] at h <;> first | trivial | exact h
theorem envLt_lk {n : Nat} : ∀ {env : Env}, envLt n env = true → ∀ k e, lk env k = some e → e.lt n
  | [], _, k, e, h => by simp [lk] at h
  | (m, x) :: t, h, k, e, he => by
    simp only [envLt, Bool.and_eq_true] at h
    rw [lk_cons] at he
    split at he
    · simp only [Option.some.injEq] at he; subst he; exact ltB_lt h.1
    · exact envLt_lk h.2 k e he
theorem rlLt_lk {n : Nat} : ∀ {rs : RL}, rlLt n rs → ∀ id r, lkR rs id = some r → id < n ∧ ∀ e ∈ r.cells, e.lt n
  | [], _, id, r, h => by simp [lkR] at h
  | (m, x) :: t, h, id, r, hr => by
    rw [lkR_cons] at hr
    split at hr
    · rename_i hid
      simp only [Option.some.injEq] at hr
      subst hid hr
      exact h.1
    · exact rlLt_lk h.2 id r hr
/-- Names of blocks that are of no use go, and the next name may be a lower one again. -/
theorem VSf.clean {k : Nat} {env env' : Env} {F : Hp} {rs rs' : RL} {nx : Nat} {G : St → Prop} (drop : List Nat) (slots : List Nat) (hrs : forceL (Go.TR.dropR drop rs) = some rs') (henv : Go.TR.keepN env slots = some env') (h1 : envLt k env' = true) (h2 : rlLt k rs') (kk : G ⟨env', F, rs', k⟩) : VSf k N [] ⟨env, F, rs, nx⟩ G := by
  intro c a w hk hs
  rw [forceL_eq, Option.some.injEq] at hrs
  subst hrs
  have hs1 := keepN_sat henv (sub_sat (rs' := Go.TR.dropR drop rs) hs (fun k r hk => by
    rw [lkR_drop'] at hk
    split at hk
    · cases hk
    · exact hk))
  exact ⟨⟨env', F, Go.TR.dropR drop rs, k⟩, {
    size := hs1.size
    defers := hs1.defers
    wok := hs1.wok
    env := hs1.env
    hist := ⟨hs1.hist.sub, hk, hs1.hist.succ⟩
    rids := rlLt_lk h2
    ids := envLt_lk h1
    gv := fun n ch e he => by simp [lkG] at he }, kk⟩
/-- The end of a round that leaves names of blocks behind. -/
theorem s_loopPc {α : Type} {kn : Nat} {Inv : α → Prop} {T : α → St} {μ : α → Nat} {i : α} {env env' : Env} {F : Hp} {rs rs' : RL} {nx k : Nat} (j : α) (drop : List Nat) (slots : List Nat) (hj : Inv j) (hm : μ j < μ i) (hrs : forceL (Go.TR.dropR drop rs) = some rs') (henv : Go.TR.keepN env slots = some env') (hk : (T i).nx = k) (h1 : envLt k env' = true) (h2 : rlLt k rs') (h : (⟨env', F, rs', k⟩ : St) = T j) : loopPK N kn Inv T μ i KK .normal ⟨env, F, rs, nx⟩ := by
  subst hk
  exact fun c a w hk hs => VSf.clean drop slots hrs henv h1 h2 ⟨j, hj, h, hm⟩ c a w (Nat.le_trans hk (Nat.min_le_right _ _)) hs
theorem s_loopPr {α : Type} {kn : Nat} {Inv : α → Prop} {T : α → St} {μ : α → Nat} {i : α} (k : KK .ret st) : loopPK N kn Inv T μ i KK .ret st := VS.id k
theorem s_loopPe {α : Type} {kn : Nat} {Inv : α → Prop} {T : α → St} {μ : α → Nat} {i : α} {id : Nat} (k : KK (.exit id) st) : loopPK N kn Inv T μ i KK (.exit id) st := VS.id k
end
end Go.TR
/-!
More of the walk's rules: ways that meet before an if with a row of its own.
-/
namespace Go.TR
open Go
section
variable {P : Program} {tb : Tb} {N : Nat} {st : St} {KK : Exit → St → Prop}
end
end Go.TR
/-!
A small program logic of our own for the model. Part p: steps by the machine's own words: pointers compared, pointers seen as addresses and back, bytes read as a string without a copy.
-/
namespace Go.TR
open Go
section
variable {P : Program} {tb : Tb} {N : Nat} {all rest : List Oper} {K : GEnv → St → Prop} {st : St}
theorem opd_eval {c : Ctx} {a : Act} {w : World} (h : GSat c N [] st a w) {x : Operand} {e : EV} (hx : opd st.rs [] st.env [] x = some e) : e.val st.rs = some (a.eval x) := fits_opd h (gA_nil a) _ _ hx
def peqE (op : BinOp) : Option EV → Option EV → Option Bool
  | some (.v (.pointer none)), some (.v (.pointer none)) => match op with
    | .eql => some true
    | .neq => some false
    | _ => none
  | some (.loc _ _), some (.v (.pointer none)) => match op with
    | .eql => some false
    | .neq => some true
    | _ => none
  | some (.loc i o), some (.loc j o') => match Nat.beq i j && Nat.beq o o' with
    | true => (match op with
      | .eql => some true
      | .neq => some false
      | _ => none)
    | false => none
  | _, _ => none
theorem run_peq {t e : TypeId} {j : TypeInfo} (hp : P.underlying t = some (.pointer e)) (hte : P.info? e = some j) (w : World) :
    (∀ a : Option Addr, (binOp .eql t (.pointer a) (.pointer none)).run P w = .ok (.bool a.isNone) w) ∧ (∀ a : Option Addr, (binOp .neq t (.pointer a) (.pointer none)).run P w = .ok (.bool (!a.isNone)) w) ∧
    (∀ a : Addr, (binOp .eql t (.pointer (some a)) (.pointer (some a))).run P w = .ok (.bool true) w) ∧ (∀ a : Addr, (binOp .neq t (.pointer (some a)) (.pointer (some a))).run P w = .ok (.bool false) w) := by
  have h : ∀ (d : Nat) (a : Option Addr), (Op.equalIn (d + 1) t (.pointer a) (.pointer none)).run P w = .ok a.isNone w := fun d a => by
    cases a <;> simp [Op.equalIn, run_underlying hp]
  have h2 : ∀ (d : Nat) (a : Addr), (Op.equalIn (d + 1) t (.pointer (some a)) (.pointer (some a))).run P w = .ok true w := fun d a => by
    simp [Op.equalIn, run_underlying hp, sizeOf, typeInfo, hte, run_sameAddr_same]
  refine ⟨fun a => ?_, fun a => ?_, fun a => ?_, fun a => ?_⟩ <;> simp only [binOp] <;> simp [Op.equal, Op.maxDepth, h 9999, h2 9999]
/-- Pointers compared. -/
theorem s_peq {d : Nat} {op : BinOp} {t u e : TypeId} {ti : TI} {x y : Operand} {ty : TypeId} {pos : String} {af : Array Edge} {env : Env} {F : Hp} {rs : RL} {nx : Nat} {b : Bool} (htb : TbOK P tb) (ht : tk tb t = some (.pointer e)) (hi : tb e = some ti)
    (h : peqE op (opd rs [] env [] x) (opd rs [] env [] y) = some b) (hd : Nat.blt d N = true)
    (k : vcOps P tb N false all rest K [] ⟨(d, .v (.bool b)) :: env, F, rs, nx⟩) : vcOps P tb N false all (⟨some d, .binOp op t x y u, ty, pos, af, none⟩ :: rest) K [] ⟨env, F, rs, nx⟩ := by
  obtain ⟨dsc, hu, hf⟩ := und_of_tk htb ht
  simp only [TK.fits] at hf
  subst hf
  obtain ⟨info, hinfo, _⟩ := (htb e ti hi).info
  refine s_sem (.v (.bool b)) hd (fun c a w o hs ho => ⟨.bool b, w, ?_, hs, rfl⟩) k
  obtain ⟨h1, h2, h3, h4⟩ := run_peq (P := P) hu hinfo w
  have run : (binOp op t (a.eval x) (a.eval y)).run P w = .ok (.bool b) w := by
    unfold peqE at h
    split at h
    · rename_i hx hy
      have ex := opd_eval hs hx
      have ey := opd_eval hs hy
      simp only [EV.val, Option.some.injEq] at ex ey
      rw [← ex, ← ey]
      split at h <;> simp at h <;> subst h
      · exact h1 none
      · exact h2 none
    · rename_i i o hx hy
      have ex := opd_eval hs hx
      have ey := opd_eval hs hy
      simp only [EV.val, Option.some.injEq] at ey
      rw [← ey]
      simp only [EV.val] at ex
      split at ex
      · split at ex
        · simp only [Option.some.injEq] at ex
          rw [← ex]
          split at h <;> simp at h <;> subst h
          · exact h1 (some _)
          · exact h2 (some _)
        · cases ex
      · cases ex
    · rename_i i o j o' hx hy
      split at h
      · rename_i hij
        simp only [Bool.and_eq_true, Nat.beq_eq] at hij
        obtain ⟨rfl, rfl⟩ := hij
        have ex := opd_eval hs hx
        have ey := opd_eval hs hy
        rw [ex] at ey
        simp only [Option.some.injEq] at ey
        rw [← ey]
        simp only [EV.val] at ex
        split at ex
        · split at ex
          · simp only [Option.some.injEq] at ex
            rw [← ex]
            split at h <;> simp at h <;> subst h
            · exact h3 _
            · exact h4 _
          · cases ex
        · cases ex
      · cases h
    · cases h
  have isp : ∀ e : EV, (∃ p, e = .v (.pointer p)) ∨ (∃ i o, e = .loc i o) → ∀ v, e.val rs = some v → ∃ p, v = .pointer p := by
    rintro e (⟨p, rfl⟩ | ⟨i, o, rfl⟩) v hv
    · simp only [EV.val, Option.some.injEq] at hv
      exact ⟨p, hv.symm⟩
    · simp only [EV.val] at hv
      split at hv
      · split at hv
        · simp only [Option.some.injEq] at hv
          exact ⟨_, hv.symm⟩
        · cases hv
      · cases hv
  have hg : (eqGuard op t x y (a.eval x) (a.eval y)).run P w = .ok () w := by
    have : (∃ p, a.eval x = .pointer p) ∧ ∃ q, a.eval y = .pointer q := by
      unfold peqE at h
      split at h
      · rename_i hx hy
        exact ⟨isp _ (.inl ⟨_, rfl⟩) _ (opd_eval hs hx), isp _ (.inl ⟨_, rfl⟩) _ (opd_eval hs hy)⟩
      · rename_i i o hx hy
        exact ⟨isp _ (.inr ⟨_, _, rfl⟩) _ (opd_eval hs hx), isp _ (.inl ⟨_, rfl⟩) _ (opd_eval hs hy)⟩
      · rename_i i o j o' hx hy
        exact ⟨isp _ (.inr ⟨_, _, rfl⟩) _ (opd_eval hs hx), isp _ (.inr ⟨_, _, rfl⟩) _ (opd_eval hs hy)⟩
      · cases h
    obtain ⟨⟨p, e1⟩, q, e2⟩ := this
    rw [e1, e2]
    unfold eqGuard
    cases op <;> rfl
  simp only [execOp, ho, run_bind, hg, run, run_pure]
/-- A name of an owned block: where it lies. -/
theorem loc_block {c : Ctx} {a : Act} {w : World} (h : GSat c N [] st a w) {id o : Nat} {v : Value} (hv : (EV.loc id o).val st.rs = some v) : ∃ r b, lkR st.rs id = some r ∧ r.blk = some b ∧ v = .pointer (some ⟨b, o, none⟩) ∧ ∃ cur : Array Value, w.heap[b]? = some (.cells cur r.ty (0, 0)) ∧ cur.size = r.cap := by
  simp only [EV.val] at hv
  split at hv
  · rename_i r hr
    split at hv
    · rename_i b hb
      simp only [Option.some.injEq] at hv
      have ho := h.wok.own.own id r hr
      rw [hb] at ho
      obtain ⟨_, _, cur, h1, h2, _⟩ := ho
      exact ⟨r, b, hr, hb, hv.symm, cur, h1, h2⟩
    · cases hv
  · cases hv
theorem shape_of {w : World} {b : Nat} {cur : Array Value} {ty : TypeId} (h : w.heap[b]? = some (.cells cur ty (0, 0))) : w.shape? b = some (ty, cur.size) := by
  simp [World.shape?, h]
/-- A pointer to a block of the call's own, seen as an address. -/
theorem s_toUnsafe {d : Nat} {s t e : TypeId} {ti : TI} {x : Operand} {ty : TypeId} {pos : String} {af : Array Edge} {env : Env} {F : Hp} {rs : RL} {nx id : Nat} {r : Blk} (htb : TbOK P tb) (hs : tk tb s = some (.pointer e)) (ht : P.underlying t = some .unsafePointer) (hi : tb e = some ti) (hz : Nat.blt 0 ti.size = true)
    (hx : opd rs [] env [] x = some (.loc id 0)) (hr : lkR rs id = some r) (hc : Nat.blt 0 r.cap = true) (hd : Nat.blt d N = true)
    (k : vcOps P tb N false all rest K [] ⟨(d, .loc id 0) :: env, F, rs, nx⟩) : vcOps P tb N false all (⟨some d, .convert s t x, ty, pos, af, none⟩ :: rest) K [] ⟨env, F, rs, nx⟩ := by
  obtain ⟨dsc, hu, hf⟩ := und_of_tk htb hs
  simp only [TK.fits] at hf
  subst hf
  obtain ⟨info, hinfo, hsz, _⟩ := (htb e ti hi).info
  refine s_sem (.loc id 0) hd (fun c a w o hs ho => ?_) k
  have ex := opd_eval hs hx
  obtain ⟨r', b, h1, h2, h3, cur, h4, h5⟩ := loc_block hs ex
  simp only at h1 ex
  rw [hr, Option.some.injEq] at h1
  subst h1
  refine ⟨a.eval x, w, ?_, hs, ex⟩
  have hz' : 0 < ti.size := by simpa using hz
  have hc' : 0 < r.cap := by simpa using hc
  have := Lib.run_to_unsafe (P := P) w ⟨b, 0, none⟩ hu ht hinfo (by omega) (shape_of h4) (by simpa [h5] using hc')
  rw [← h3] at this
  simp only [execOp, ho, run_bind, this, run_pure]
/-- .. and back. -/
theorem s_fromUnsafe {d : Nat} {s t e : TypeId} {ti : TI} {x : Operand} {ty : TypeId} {pos : String} {af : Array Edge} {env : Env} {F : Hp} {rs : RL} {nx id : Nat} {r : Blk} (htb : TbOK P tb) (hs : P.underlying s = some .unsafePointer) (ht : tk tb t = some (.pointer e)) (hi : tb e = some ti)
    (hx : opd rs [] env [] x = some (.loc id 0)) (hr : lkR rs id = some r) (hl : liesAt P P.depth r.ty (r.cap / P.cellsOf r.ty) 0 e 1 = true) (hd : Nat.blt d N = true)
    (k : vcOps P tb N false all rest K [] ⟨(d, .loc id 0) :: env, F, rs, nx⟩) : vcOps P tb N false all (⟨some d, .convert s t x, ty, pos, af, none⟩ :: rest) K [] ⟨env, F, rs, nx⟩ := by
  obtain ⟨dsc, hu, hf⟩ := und_of_tk htb ht
  simp only [TK.fits] at hf
  subst hf
  obtain ⟨info, hinfo, _⟩ := (htb e ti hi).info
  refine s_sem (.loc id 0) hd (fun c a w o hs' ho => ?_) k
  have ex := opd_eval hs' hx
  obtain ⟨r', b, h1, h2, h3, cur, h4, h5⟩ := loc_block hs' ex
  simp only at h1 ex
  rw [hr, Option.some.injEq] at h1
  subst h1
  refine ⟨a.eval x, w, ?_, hs', ex⟩
  have := Lib.run_from_unsafe (P := P) w ⟨b, 0, none⟩ hs hu hinfo (shape_of h4) (by rw [h5]; exact hl)
  rw [← h3] at this
  simp only [execOp, ho, run_bind, this, run_pure]
/-- A call of a function without a text that hands its argument back. -/
theorem s_same {d : Nat} {f : Nat} {x : Operand} {ts : Array TypeId} {fn : Func} {ty : TypeId} {pos : String} {af : Array Edge} {e : EV} {env : Env} {F : Hp} {rs : RL} {nx : Nat} (hf : P.funcs[f]? = some fn) (hname : (fn.name == "runtime.NumGoroutine") = false)
    (hb : fn.body.isNone = true) (hn : Extern.findNext fn = none) (he : Extern.find fn = some Extern.AbiNoEscape.same) (hx : opd rs [] env [] x = some e) (hd : Nat.blt d N = true)
    (k : vcOps P tb N false all rest K [] ⟨(d, e) :: env, F, rs, nx⟩) : vcOps P tb N false all (⟨some d, .call ⟨.value (.func f), #[x], ts⟩, ty, pos, af, none⟩ :: rest) K [] ⟨env, F, rs, nx⟩ := by
  refine s_sem e hd (fun c a w o hs ho => ⟨a.eval x, w, ?_, hs, opd_eval hs hx⟩) k
  have h1 : a.eval (.func f) = .func (.func f) #[] #[] := rfl
  have h2 := run_callFunc_extern hf hname hb hn he #[a.eval x] w
  rw [Lib.run_noEscape] at h2
  simp only [Result.andThen] at h2
  simp [execOp, ho, resolve, h1, Deferred.ofValue, invoke, h2]
/-- A block that the state does not speak of may turn. -/
theorem off_sat {c : Ctx} {g : GEnv} {a : Act} {w w' : World} {b : Nat} (h : GSat c N g st a w) (hp : Pres [b] w w') (hF : st.F b = none) (hb : c.wE.heap.size ≤ b) (hrs : ∀ k r, lkR st.rs k = some r → r.blk ≠ some b) : GSat c N g st a w' := by
  refine { h with wok := ?_ }
  exact {
    le := h.wok.le.pres hp (fun x hx => by rw [List.mem_singleton] at hx; subst hx; exact hF)
    own := {
      own := fun id r hr => by
        have h1 := h.wok.own.own id r hr
        cases hk : r.blk with
        | none => rw [hk] at h1; exact h1
        | some b' =>
          rw [hk] at h1
          obtain ⟨g1, g2, cur, g3, g4⟩ := h1
          have hne : b' ≠ b := fun e => hrs id r hr (by rw [hk, e])
          exact ⟨g1, g2, cur, (hp.block b' (lt_of_some g3) (by simpa using hne)).trans g3, g4⟩
      apart := h.wok.own.apart }
    pres := h.wok.pres.trans' hp (fun y hy => by rw [List.mem_singleton] at hy; subst hy; exact .inr hb)
    new := h.wok.new
    fnew := h.wok.fnew
    sz := Nat.le_trans h.wok.sz hp.size
    tp := h.wok.tp }
theorem pres_freeze (w : World) (b n : Nat) : Pres [b] w (w.freeze ⟨b, 0, none⟩ n) := by
  unfold World.freeze
  split
  · exact Pres.refl _ _
  · refine ⟨rfl, rfl, rfl, by simp, fun k hk hx => ?_⟩
    have : b ≠ k := fun e => hx (by simp [e])
    simp [Array.getElem?_modify, this]
/-- unsafe.String of no byte. -/
theorem s_ustr0 {d : Nat} {x y : Operand} {t1 t2 : TypeId} {ty : TypeId} {pos : String} {af : Array Edge} {env : Env} {F : Hp} {rs : RL} {nx : Nat} (hx : opd rs [] env [] x = some (.v (.pointer none))) (hy : opd rs [] env [] y = some (.v (.int .i64 0))) (hd : Nat.blt d N = true)
    (k : vcOps P tb N false all rest K [] ⟨(d, .v (S [])) :: env, F, rs, nx⟩) : vcOps P tb N false all (⟨some d, .call ⟨.builtin .unsafeString, #[x, y], #[t1, t2]⟩, ty, pos, af, none⟩ :: rest) K [] ⟨env, F, rs, nx⟩ := by
  refine s_sem (.v (S [])) hd (fun c' a w o hs ho => ?_) k
  have ex := opd_eval hs hx
  have ey := opd_eval hs hy
  simp only [EV.val, Option.some.injEq] at ex ey
  refine ⟨S [], w, ?_, hs, rfl⟩
  have := Lib.run_unsafeString_none (P := P) w t1 t2 o.type none
  rw [ex, ey] at this
  simp [execOp, ho, resolve, invoke, builtin, this]
  rfl
/-- unsafe.String over the head of a row of bytes: the row is given away. -/
theorem s_ustr {d : Nat} {x y : Operand} {t1 t2 : TypeId} {ty : TypeId} {pos : String} {af : Array Edge} {env : Env} {F : Hp} {rs rs' : RL} {nx id m b cap : Nat} {cells : List EV} {tyb : TypeId} (l : List UInt8) (hp : P.underlying t1 = some (.pointer tyb)) (h1 : P.cellsOf tyb = 1) (hx : opd rs [] env [] x = some (.loc id 0)) (hr : lkR rs id = some ⟨some b, cells, tyb, cap⟩) (hy : opd rs [] env [] y = some (.v (.int .i64 (m : Nat)))) (hm : m = l.length) (hd : Nat.blt d N = true)
    (hrs : forceL (delR rs id) = some rs') (h0 : l ≠ []) (hl : l.length ≤ 9223372036854775807) (hcl : l.length ≤ cells.length) (hc : cells.take l.length = l.map fun b => .v (.int .u8 (b.toNat : Int)))
    (k : vcOps P tb N false all rest K [] ⟨(d, .v (S l)) :: env, F, rs', nx⟩) : vcOps P tb N false all (⟨some d, .call ⟨.builtin .unsafeString, #[x, y], #[t1, t2]⟩, ty, pos, af, none⟩ :: rest) K [] ⟨env, F, rs, nx⟩ := by
  rw [forceL_eq, Option.some.injEq] at hrs
  subst hrs hm
  refine s_sem (.v (S l)) hd (fun c' a w o hs ho => ?_) k
  have ex := opd_eval hs hx
  have ey := opd_eval hs hy
  simp only [EV.val, hr, Option.some.injEq] at ex ey
  have ho' := hs.wok.own.own id _ hr
  obtain ⟨g1, g2, cur, g3, g4, g5⟩ := ho'
  simp only at g1 g2 g4 g5
  refine ⟨S l, w.freeze ⟨b, 0, none⟩ l.length, ?_, off_sat (b := b) (sub_sat hs fun k r hk => ?_) (pres_freeze w b _) g1 (hs.wok.new id _ b hr (.inl rfl)) (fun k r hk hb => ?_), rfl⟩
  · have := Lib.run_unsafeString_row (P := P) w t1 t2 o.type tyb hp h1 b cur.size (shape_of g3) l h0 (by omega) hl (fun j u hj => by
      have hlt : j < l.length := (List.getElem?_eq_some_iff.1 hj).1
      have e2 : cells[j]? = some (.v (.int .u8 (u.toNat : Int))) := by
        have := congrArg (fun q => q[j]?) hc
        simp only [List.getElem?_take, hlt, if_true, List.getElem?_map, hj, Option.map_some] at this
        exact this
      have e3 := g5 j _ _ e2 rfl
      rw [addr_add]
      simp only [World.cell?, g3, Nat.zero_add, Option.isSome_none, Bool.false_eq_true, if_false]
      exact e3)
    rw [ex, ey] at this
    simp [execOp, ho, resolve, invoke, builtin, this]
    rfl
  · rw [lkR_delR] at hk
    split at hk
    · cases hk
    · exact hk
  · simp only at hk
    rw [lkR_delR] at hk
    split at hk
    · cases hk
    · rename_i hne
      exact hne (hs.wok.own.apart _ _ _ _ _ hk hr hb rfl)
end
end Go.TR
/-!
A small program logic of our own for the model. Part q: blocks named anew.
-/
namespace Go.TR
open Go
section
variable {P : Program} {tb : Tb} {N : Nat} {KK : Exit → St → Prop} {st : St}
def renN (ρ : List (Nat × Nat)) (n : Nat) : Option Nat :=
  match ρ with
  | [] => none
  | (m, k) :: t => match Nat.beq n m with
    | true => some k
    | false => renN t n
def renE (ρ : List (Nat × Nat)) : EV → Option EV
  | .v x => some (.v x)
  | .loc id o => match renN ρ id with
    | some k => some (.loc k o)
    | none => none
  | .row id o n c => match renN ρ id with
    | some k => some (.row k o n c)
    | none => none
def renL (ρ : List (Nat × Nat)) : List EV → Option (List EV)
  | [] => some []
  | e :: t => match renE ρ e, renL ρ t with
    | some e', some t' => some (e' :: t')
    | _, _ => none
def renEnv (ρ : List (Nat × Nat)) (env : Env) : List Nat → Option Env
  | [] => some []
  | n :: t => match lk env n with
    | some e => (match renE ρ e, renEnv ρ env t with
      | some e', some l => some ((n, e') :: l)
      | _, _ => none)
    | none => none
/-- The same block under another name. -/
def renB (ρ : List (Nat × Nat)) (r r' : Blk) : Prop := r'.blk = r.blk ∧ r'.ty = r.ty ∧ r'.cap = r.cap ∧ ((r'.cells = r.cells ∧ ∀ e ∈ r.cells, ∃ x, e = .v x) ∨ renL ρ r.cells = some r'.cells)
def RenOK (ρ : List (Nat × Nat)) (rs : RL) : List (Nat × Nat) → RL → Prop
  | [], [] => True
  | (i, j) :: t, (j', r') :: rs' => j' = j ∧ (∃ r, lkR rs i = some r ∧ renB ρ r r') ∧ RenOK ρ rs t rs'
  | _, _ => False
theorem all_v (l : List Value) : ∀ e ∈ l.map EV.v, ∃ x, e = .v x := fun e he => by
  obtain ⟨x, _, rfl⟩ := List.mem_map.1 he
  exact ⟨x, rfl⟩
theorem RenOK.lk {ρ : List (Nat × Nat)} {rs : RL} : ∀ {t : List (Nat × Nat)} {rs' : RL}, RenOK ρ rs t rs' → ∀ j r', lkR rs' j = some r' → ∃ i r, (i, j) ∈ t ∧ lkR rs i = some r ∧ renB ρ r r'
  | [], [], _, j, r', h => by simp [lkR] at h
  | (i, j0) :: t, (j1, r1) :: rs', h, j, r', hr => by
    obtain ⟨rfl, ⟨r, h1, h2⟩, h3⟩ := h
    rw [lkR_cons] at hr
    split at hr
    · rename_i hj
      simp only [Option.some.injEq] at hr
      subst hj hr
      exact ⟨i, r, List.mem_cons_self, h1, h2⟩
    · obtain ⟨i', r2, g1, g2⟩ := h3.lk j r' hr
      exact ⟨i', r2, List.mem_cons_of_mem _ g1, g2⟩
  | [], _ :: _, h, _, _, _ => h.elim
  | _ :: _, [], h, _, _, _ => h.elim
def fstsB : List (Nat × Nat) → List Nat → Bool
  | [], _ => true
  | (i, _) :: t, seen => !(seen.contains i) && fstsB t (i :: seen)
def sndsB : List (Nat × Nat) → List Nat → Bool
  | [], _ => true
  | (_, j) :: t, seen => !(seen.contains j) && sndsB t (j :: seen)
theorem fsts_nd : ∀ {l : List (Nat × Nat)} {seen : List Nat}, fstsB l seen = true → (l.map (·.1)).Nodup ∧ ∀ x ∈ l, x.1 ∉ seen
  | [], _, _ => ⟨by simp, by simp⟩
  | (i, j) :: t, seen, h => by
    simp only [fstsB, Bool.and_eq_true, Bool.not_eq_true', List.contains_eq_mem, decide_eq_false_iff_not] at h
    obtain ⟨h1, h2⟩ := fsts_nd h.2
    refine ⟨?_, fun x hx => ?_⟩
    · simp only [List.map_cons, List.nodup_cons]
      refine ⟨fun hm => ?_, h1⟩
      obtain ⟨y, hy, e⟩ := List.mem_map.1 hm
      exact h2 y hy (by rw [e]; exact List.mem_cons_self)
    · rcases List.mem_cons.1 hx with rfl | hx
      · exact h.1
      · exact fun hs => h2 x hx (List.mem_cons_of_mem _ hs)
theorem snds_nd : ∀ {l : List (Nat × Nat)} {seen : List Nat}, sndsB l seen = true → (l.map (·.2)).Nodup ∧ ∀ x ∈ l, x.2 ∉ seen
  | [], _, _ => ⟨by simp, by simp⟩
  | (i, j) :: t, seen, h => by
    simp only [sndsB, Bool.and_eq_true, Bool.not_eq_true', List.contains_eq_mem, decide_eq_false_iff_not] at h
    obtain ⟨h1, h2⟩ := snds_nd h.2
    refine ⟨?_, fun x hx => ?_⟩
    · simp only [List.map_cons, List.nodup_cons]
      refine ⟨fun hm => ?_, h1⟩
      obtain ⟨y, hy, e⟩ := List.mem_map.1 hm
      exact h2 y hy (by rw [e]; exact List.mem_cons_self)
    · rcases List.mem_cons.1 hx with rfl | hx
      · exact h.1
      · exact fun hs => h2 x hx (List.mem_cons_of_mem _ hs)
theorem renN_mem {ρ : List (Nat × Nat)} {n k : Nat} (h : renN ρ n = some k) : (n, k) ∈ ρ := by
  induction ρ with
  | nil => simp [renN] at h
  | cons p t ih =>
    obtain ⟨m, q⟩ := p
    simp only [renN] at h
    split at h
    · rename_i hb
      simp only [Option.some.injEq] at h
      rw [Nat.eq_of_beq_eq_true hb, h]
      exact List.mem_cons_self
    · exact List.mem_cons_of_mem _ (ih h)
theorem nodup_fst {l : List (Nat × Nat)} (h : (l.map (·.1)).Nodup) {i j j' : Nat} (h1 : (i, j) ∈ l) (h2 : (i, j') ∈ l) : j = j' := by
  induction l with
  | nil => simp at h1
  | cons p t ih =>
    simp only [List.map_cons, List.nodup_cons] at h
    rcases List.mem_cons.1 h1 with e1 | h1 <;> rcases List.mem_cons.1 h2 with e2 | h2
    · rw [← e2] at e1; cases e1; rfl
    · exact absurd (List.mem_map.2 ⟨_, h2, by rw [← e1]⟩) h.1
    · exact absurd (List.mem_map.2 ⟨_, h1, by rw [← e2]⟩) h.1
    · exact ih h.2 h1 h2
theorem nodup_snd {l : List (Nat × Nat)} (h : (l.map (·.2)).Nodup) {i i' j : Nat} (h1 : (i, j) ∈ l) (h2 : (i', j) ∈ l) : i = i' := by
  induction l with
  | nil => simp at h1
  | cons p t ih =>
    simp only [List.map_cons, List.nodup_cons] at h
    rcases List.mem_cons.1 h1 with e1 | h1 <;> rcases List.mem_cons.1 h2 with e2 | h2
    · rw [← e2] at e1; cases e1; rfl
    · exact absurd (List.mem_map.2 ⟨_, h2, by rw [← e1]⟩) h.1
    · exact absurd (List.mem_map.2 ⟨_, h1, by rw [← e2]⟩) h.1
    · exact ih h.2 h1 h2
/-- New names: as they were, or none that stood when the code began. -/
def newB (k nx : Nat) : List (Nat × Nat) → Bool
  | [] => true
  | (i, j) :: t => Nat.blt j nx && (Nat.beq i j || Nat.ble k j) && newB k nx t
theorem newB_mem {k nx : Nat} : ∀ {l : List (Nat × Nat)}, newB k nx l = true → ∀ i j, (i, j) ∈ l → j < nx ∧ (i = j ∨ k ≤ j)
  | [], _, i, j, h => by simp at h
  | (a, b) :: t, h, i, j, hm => by
    simp only [newB, Bool.and_eq_true, Bool.or_eq_true, Nat.blt_eq, Nat.beq_eq, Nat.ble_eq] at h
    rcases List.mem_cons.1 hm with e | hm
    · cases e; exact h.1
    · exact newB_mem h.2 i j hm
theorem ren_val {ρ : List (Nat × Nat)} {rs rs' : RL} (hnd : (ρ.map (·.2)).Nodup) (h : RenOK ρ rs ρ rs') {e e' : EV} (he : renE ρ e = some e') {x : Value} (hx : e'.val rs' = some x) : e.val rs = some x := by
  cases e with
  | v y => simp only [renE, Option.some.injEq] at he; subst he; exact hx
  | loc id o =>
    simp only [renE] at he
    split at he
    · rename_i k hk
      simp only [Option.some.injEq] at he
      subst he
      simp only [EV.val] at hx ⊢
      cases hr : lkR rs' k with
      | none => simp [hr] at hx
      | some r' =>
        obtain ⟨i, r, h1, h2, h3, _⟩ := h.lk k r' hr
        have : i = id := nodup_snd hnd h1 (renN_mem hk)
        subst this
        rw [hr] at hx
        rw [h2]
        simp only [h3] at hx ⊢
        exact hx
    · cases he
  | row id o n c =>
    simp only [renE] at he
    split at he
    · rename_i k hk
      simp only [Option.some.injEq] at he
      subst he
      simp only [EV.val] at hx ⊢
      cases hr : lkR rs' k with
      | none => simp [hr] at hx
      | some r' =>
        obtain ⟨i, r, h1, h2, h3, _⟩ := h.lk k r' hr
        have : i = id := nodup_snd hnd h1 (renN_mem hk)
        subst this
        rw [hr] at hx
        rw [h2]
        simp only [h3] at hx ⊢
        exact hx
    · cases he
theorem renL_get {ρ : List (Nat × Nat)} : ∀ {l l' : List EV}, renL ρ l = some l' → l'.length = l.length ∧ ∀ (j : Nat) (e' : EV), l'[j]? = some e' → ∃ e, l[j]? = some e ∧ renE ρ e = some e'
  | [], l', h => by simp only [renL, Option.some.injEq] at h; subst h; exact ⟨rfl, by simp⟩
  | e :: t, l', h => by
    simp only [renL] at h
    split at h
    · rename_i e1 t1 h1 h2
      simp only [Option.some.injEq] at h
      subst h
      obtain ⟨g1, g2⟩ := renL_get h2
      refine ⟨by simp [g1], fun j e' hj => ?_⟩
      cases j with
      | zero => simp at hj; subst hj; exact ⟨e, rfl, h1⟩
      | succ j => simpa using g2 j e' (by simpa using hj)
    · cases h
theorem renEnv_lk {ρ : List (Nat × Nat)} {env : Env} : ∀ {slots : List Nat} {env' : Env}, renEnv ρ env slots = some env' → ∀ n e', lk env' n = some e' → ∃ e, lk env n = some e ∧ renE ρ e = some e'
  | [], env', h, n, e', hn => by simp only [renEnv, Option.some.injEq] at h; subst h; simp [lk] at hn
  | s :: t, env', h, n, e', hn => by
    simp only [renEnv] at h
    split at h
    · rename_i e he
      split at h
      · rename_i e1 l h1 h2
        simp only [Option.some.injEq] at h
        subst h
        rw [lk_cons] at hn
        split at hn
        · rename_i hns
          simp only [Option.some.injEq] at hn
          subst hns hn
          exact ⟨e, he, h1⟩
        · exact renEnv_lk h2 n e' hn
      · cases h
    · cases h
theorem renE_lt {ρ : List (Nat × Nat)} {nx : Nat} (hb : ∀ i j, (i, j) ∈ ρ → j < nx) {e e' : EV} (h : renE ρ e = some e') : e'.lt nx := by
  cases e with
  | v y => simp only [renE, Option.some.injEq] at h; subst h; trivial
  | loc id o =>
    simp only [renE] at h
    split at h
    · rename_i k hk
      simp only [Option.some.injEq] at h
      subst h
      exact hb _ _ (renN_mem hk)
    · cases h
  | row id o n c =>
    simp only [renE] at h
    split at h
    · rename_i k hk
      simp only [Option.some.injEq] at h
      subst h
      exact hb _ _ (renN_mem hk)
    · cases h
theorem ren_at {ρ : List (Nat × Nat)} {r r' : Blk} {b : Nat} (b1 : r'.blk = r.blk) (b2 : r'.ty = r.ty) (b4 : (r'.cells = r.cells ∧ ∀ e ∈ r.cells, ∃ x, e = .v x) ∨ renL ρ r.cells = some r'.cells) (h : r'.at b) : r.at b := by
  rcases h with h | ⟨h1, h0, h2⟩
  · exact .inl (b1 ▸ h)
  · refine .inr ⟨b1 ▸ h1, b2 ▸ h0, ?_⟩
    rcases b4 with ⟨b4, _⟩ | b4
    · rw [← b4]; exact h2
    · rw [h2] at b4
      have hl := (renL_get b4).1
      obtain ⟨e, g1, g2⟩ := (renL_get b4).2 0 _ rfl
      cases hc : r.cells with
      | nil => rw [hc] at hl; simp at hl
      | cons e1 t =>
        rw [hc] at hl g1
        simp only [List.length_cons, List.length_nil, Nat.zero_add, Nat.add_eq_right] at hl
        simp only [List.getElem?_cons_zero, Option.some.injEq] at g1
        subst g1
        have ht : t = [] := List.eq_nil_of_length_eq_zero (by omega)
        rw [ht]
        cases e1 with
        | v x => simp only [renE, Option.some.injEq] at g2; rw [g2]
        | loc i o => simp only [renE] at g2; split at g2 <;> cases g2
        | row i o n c => simp only [renE] at g2; split at g2 <;> cases g2
theorem ren_sat {c : Ctx} {env env' : Env} {F : Hp} {rs rs' : RL} {nx nx' k : Nat} {a : Act} {w : World} (ρ : List (Nat × Nat)) (slots : List Nat) (hk : c.nx0 ≤ k) (hs : GSat c N [] ⟨env, F, rs, nx⟩ a w) (hr : RenOK ρ rs ρ rs') (henv : renEnv ρ env slots = some env')
    (h1 : fstsB ρ [] = true) (h2 : sndsB ρ [] = true) (h3 : newB k nx' ρ = true) (h4 : k ≤ nx') : GSat c N [] ⟨env', F, rs', nx'⟩ a w := by
  have nd1 := (fsts_nd h1).1
  have nd2 := (snds_nd h2).1
  have hb := newB_mem h3
  have hval : ∀ e e' x, renE ρ e = some e' → e'.val rs' = some x → e.val rs = some x := fun e e' x h hx => ren_val nd2 hr h hx
  exact {
    size := hs.size
    defers := hs.defers
    wok := {
      le := hs.wok.le
      own := {
        own := fun id r' hr' => by
          obtain ⟨i, r, g1, g2, b1, b2, b3, b4⟩ := hr.lk id r' hr'
          have ho := hs.wok.own.own i r g2
          rw [b1]
          cases hbk : r.blk with
          | none =>
            rw [hbk] at ho
            refine ⟨?_, by rw [b3]; exact ho.2⟩
            rcases b4 with ⟨b4, _⟩ | b4
            · rw [b4]; exact b2.symm ▸ ho.1
            · refine ho.1.elim (fun e => .inl ?_) (fun ⟨e0, b, e⟩ => .inr ⟨b2.trans e0, b, ?_⟩)
              · have := (renL_get b4).1
                rw [e] at this
                exact List.eq_nil_of_length_eq_zero this
              · rw [e] at b4
                exact (Option.some.inj b4).symm
          | some b =>
            rw [hbk] at ho
            obtain ⟨o1, o2, cur, o3, o4, o5⟩ := ho
            refine ⟨o1, ?_, cur, by rw [b2]; exact o3, by rw [b3]; exact o4, fun j ev x hj hx => ?_⟩
            · rw [b3]
              rcases b4 with ⟨b4, _⟩ | b4
              · rw [b4]; exact o2
              · rw [(renL_get b4).1]; exact o2
            · rcases b4 with ⟨b4, b5⟩ | b4
              · rw [b4] at hj
                obtain ⟨y, rfl⟩ := b5 ev (List.mem_of_getElem? hj)
                exact o5 j _ x hj hx
              · obtain ⟨e, q1, q2⟩ := (renL_get b4).2 j ev hj
                exact o5 j e x q1 (hval e ev x q2 hx)
        apart := fun i j r s b hi hj hb1 hb2 => by
          obtain ⟨i', r0, g1, g2, b1, _⟩ := hr.lk i r hi
          obtain ⟨j', s0, g3, g4, c1, _⟩ := hr.lk j s hj
          have : i' = j' := hs.wok.own.apart i' j' r0 s0 b g2 g4 (by rw [← b1]; exact hb1) (by rw [← c1]; exact hb2)
          subst this
          exact nodup_fst nd1 g1 g3 }
      pres := hs.wok.pres
      new := fun id r' b hr' hb1 => by
        obtain ⟨i, r, g1, g2, b1, b2, b3, b4⟩ := hr.lk id r' hr'
        exact hs.wok.new i r b g2 (ren_at b1 b2 b4 hb1)
      fnew := hs.wok.fnew
      sz := hs.wok.sz
      tp := hs.wok.tp }
    hist := {
      sub := hs.hist.sub
      nxle := Nat.le_trans hk h4
      succ := fun id r' hid hr' => by
        obtain ⟨i, r, g1, g2, b1, _⟩ := hr.lk id r' hr'
        rcases (hb i id g1).2 with rfl | hge
        · obtain ⟨r0, q1, q2⟩ := hs.hist.succ i r hid g2
          exact ⟨r0, q1, q2.trans b1.symm⟩
        · omega }
    rids := fun id r' hr' => by
      obtain ⟨i, r, g1, g2, b1, b2, b3, b4⟩ := hr.lk id r' hr'
      refine ⟨(hb i id g1).1, fun e he => ?_⟩
      rcases b4 with ⟨b4, b5⟩ | b4
      · rw [b4] at he
        obtain ⟨x, rfl⟩ := b5 e he
        trivial
      · obtain ⟨j, hj⟩ := List.getElem?_of_mem he
        obtain ⟨e0, _, q2⟩ := (renL_get b4).2 j e hj
        exact renE_lt (fun i j h => (hb i j h).1) q2
    ids := fun n e he => by
      obtain ⟨e0, _, q2⟩ := renEnv_lk henv n e he
      exact renE_lt (fun i j h => (hb i j h).1) q2
    env := fun n e x _ he hx => by
      obtain ⟨e0, q1, q2⟩ := renEnv_lk henv n e he
      exact hs.env n e0 x rfl q1 (hval e0 e x q2 hx)
    gv := fun n ch e he => by simp [lkG] at he }
/-- Blocks named anew, at the end of a loop's round. -/
theorem VSf.ren {k : Nat} {env env' : Env} {F : Hp} {rs rs' : RL} {nx nx' : Nat} {G : St → Prop} (ρ : List (Nat × Nat)) (slots : List Nat) (rs0 : RL) (hr : RenOK ρ rs ρ rs0) (hrs : rs0 = rs') (henv : renEnv ρ env slots = some env')
    (h1 : fstsB ρ [] = true) (h2 : sndsB ρ [] = true) (h3 : newB k nx' ρ = true) (h4 : Nat.ble k nx' = true) (kk : G ⟨env', F, rs', nx'⟩) : VSf k N [] ⟨env, F, rs, nx⟩ G := fun c a w hk hs => by
  subst hrs
  exact ⟨_, ren_sat ρ slots hk hs hr henv h1 h2 h3 (by simpa using h4), kk⟩
/-- .. anywhere: the new names are none that stood. -/
theorem VS.ren {env env' : Env} {F : Hp} {rs rs' : RL} {nx nx' : Nat} {G : St → Prop} (ρ : List (Nat × Nat)) (slots : List Nat) (rs0 : RL) (hr : RenOK ρ rs ρ rs0) (hrs : rs0 = rs') (henv : renEnv ρ env slots = some env')
    (h1 : fstsB ρ [] = true) (h2 : sndsB ρ [] = true) (h3 : newB nx nx' ρ = true) (h4 : Nat.ble nx nx' = true) (kk : G ⟨env', F, rs', nx'⟩) : VS N [] ⟨env, F, rs, nx⟩ G := fun c a w hs => by
  subst hrs
  exact ⟨_, ren_sat ρ slots hs.hist.nxle hs hr henv h1 h2 h3 (by simpa using h4), kk⟩
theorem VSf.trans {k : Nat} {G : St → Prop} {st : St} (h : VS N [] st (fun st' => VSf k N [] st' G)) : VSf k N [] st G := fun c a w hk hs => by
  obtain ⟨st', h1, h2⟩ := h c a w hs
  exact h2 c a w hk h1
theorem VSf.id {k : Nat} {G : St → Prop} {st : St} (h : G st) : VSf k N [] st G := fun _ _ _ _ hs => ⟨st, hs, h⟩
/-- The end of a round, with blocks named anew. -/
theorem s_loopPq {α : Type} {kn : Nat} {Inv : α → Prop} {T : α → St} {μ : α → Nat} {i : α} {env env' : Env} {F : Hp} {rs rs' : RL} {nx nx' : Nat} (j : α) (k : Nat) (ρ : List (Nat × Nat)) (slots : List Nat) (rs0 : RL) (hj : Inv j) (hm : μ j < μ i) (hk : min kn (T i).nx ≤ k) (hr : RenOK ρ rs ρ rs0) (hrs : rs0 = rs') (henv : renEnv ρ env slots = some env')
    (h1 : fstsB ρ [] = true) (h2 : sndsB ρ [] = true) (h3 : newB k nx' ρ = true) (h4 : Nat.ble k nx' = true) (h : (⟨env', F, rs', nx'⟩ : St) = T j) : loopPK N kn Inv T μ i KK .normal ⟨env, F, rs, nx⟩ := fun c a w hk' hs =>
  VSf.ren ρ slots rs0 hr hrs henv h1 h2 h3 h4 ⟨j, hj, h, hm⟩ c a w (Nat.le_trans hk' hk) hs
/-- The nil slice's name goes: what stood for it is the nil slice. -/
def nilE (id : Nat) : EV → EV
  | .v x => .v x
  | .loc i o => .loc i o
  | .row i o n c => match Nat.beq i id with
    | true => .v (.slice none n c)
    | false => .row i o n c
def nilN (id : Nat) : Env → Env
  | [] => []
  | (n, e) :: t => (n, nilE id e) :: nilN id t
theorem nilN_lk {id : Nat} : ∀ {env : Env} {n : Nat} {e' : EV}, lk (nilN id env) n = some e' → ∃ e, lk env n = some e ∧ nilE id e = e'
  | [], n, e', h => by simp [nilN, lk] at h
  | (m, e) :: t, n, e', h => by
    simp only [nilN] at h
    rw [lk_cons] at h ⊢
    split at h
    · rename_i hn
      simp only [Option.some.injEq] at h
      exact ⟨e, by rw [if_pos hn], h⟩
    · rename_i hn
      obtain ⟨e0, h1, h2⟩ := nilN_lk h
      exact ⟨e0, by rw [if_neg hn]; exact h1, h2⟩
theorem VS.nilval {env env' : Env} {F : Hp} {rs : RL} {nx : Nat} {G : St → Prop} (id : Nat) {cells : List EV} {ty : TypeId} {cap : Nat} (slots : List Nat) (hr : lkR rs id = some ⟨none, cells, ty, cap⟩) (henv : Go.TR.keepN (nilN id env) slots = some env') (k : VS N [] ⟨env', F, rs, nx⟩ G) : VS N [] ⟨env, F, rs, nx⟩ G := fun c a w hs => by
  have hv : ∀ e x, (nilE id e).val rs = some x → e.val rs = some x := fun e x hx => by
    cases e with
    | v y => exact hx
    | loc i o => exact hx
    | row i o n cc =>
      simp only [nilE] at hx
      split at hx
      · rename_i hb
        have := Nat.eq_of_beq_eq_true hb
        subst this
        simp only [EV.val, hr, Option.map_none]
        exact hx
      · exact hx
  have hlt : ∀ e : EV, e.lt nx → (nilE id e).lt nx := fun e he => by
    cases e with
    | v y => trivial
    | loc i o => exact he
    | row i o n cc =>
      simp only [nilE]
      split
      · trivial
      · exact he
  refine k c a w (keepN_sat henv ?_)
  exact {
    size := hs.size
    defers := hs.defers
    wok := hs.wok
    hist := hs.hist
    rids := hs.rids
    ids := fun n e he => by
      obtain ⟨e0, h1, rfl⟩ := nilN_lk he
      exact hlt e0 (hs.ids n e0 h1)
    env := fun n e x _ he hx => by
      obtain ⟨e0, h1, rfl⟩ := nilN_lk he
      exact hs.env n e0 x rfl h1 (hv e0 x hx)
    gv := fun n ch e he => by simp [lkG] at he }
/-- What is known of a nil row: it has no cells. -/
theorem VS.nilcells {env : Env} {F : Hp} {rs : RL} {nx : Nat} {G : St → Prop} {id : Nat} {cells : List EV} {ty : TypeId} {cap : Nat} (hr : lkR rs id = some ⟨none, cells, ty, cap⟩) (hty : ty ≠ 0) (k : cells = [] ∧ cap = 0 → VS N [] ⟨env, F, rs, nx⟩ G) : VS N [] ⟨env, F, rs, nx⟩ G := fun c a w hs => by
  obtain ⟨h1, h2⟩ := hs.wok.own.own id _ hr
  exact k ⟨h1.elim (fun e => e) (fun ⟨e, _⟩ => absurd e hty), h2⟩ c a w hs
end
end Go.TR
/-!
A small program logic of our own for the model. Part z: the plain steps, one behind the other, as far as they go.
-/
namespace Go.TR
theorem stp {A B C : Prop} (f : B → C) (k : A → B) : A → C := fun a => f (k a)
theorem stpA {A B : Nat → Prop} {C : Prop} (f : (∀ b, B b) → C) (k : ∀ b, A b → B b) : (∀ b, A b) → C := fun a => f fun b => k b (a b)
/-- What is left when all plain steps are done. -/
theorem run {G : Prop} {H : Unit → Prop} (k : H ()) (h : ∀ u, H u → G := by
  intro u
  repeat (first
    | refine stp (Go.TR.s_pure rfl rfl rfl) ?_ | refine stp (Go.TR.s_loc rfl rfl) ?_ | refine stp (Go.TR.s_known rfl rfl rfl) ?_ | refine stp (Go.TR.s_unwanted rfl rfl rfl) ?_
    | refine stp (Go.TR.s_unwantedU rfl rfl rfl) ?_ | refine stp (Go.TR.s_unwantedG rfl rfl rfl rfl rfl) ?_ | refine stp (Go.TR.s_unwantedUG rfl rfl rfl rfl rfl) ?_ | refine stp (Go.TR.s_gpure rfl rfl rfl rfl rfl) ?_
    | refine stp (Go.TR.s_gloc rfl rfl rfl rfl) ?_ | refine stp (Go.TR.s_store rfl) ?_ | refine stp (Go.TR.s_pureG rfl rfl rfl rfl) ?_ | refine stp (Go.TR.s_pick rfl rfl rfl) ?_
    | refine stp (Go.TR.s_pickK rfl rfl) ?_ | refine stp (Go.TR.s_pick0 rfl rfl) ?_ | refine stp (Go.TR.s_gpick rfl rfl rfl rfl) ?_ | refine stp (Go.TR.s_locG rfl rfl rfl) ?_
    | refine stp Go.TR.s_nil ?_ | refine stp Go.TR.s_drop ?_ | refine stp Go.TR.s_back ?_ | refine stp Go.TR.s_seqn ?_
    | refine stp Go.TR.s_seqr ?_ | refine stp Go.TR.s_seqe ?_ | refine stp Go.TR.s_seq ?_ | refine stp Go.TR.s_region ?_
    | refine stp Go.TR.s_block ?_ | refine stp Go.TR.s_blockn ?_ | refine stp Go.TR.s_blockr ?_ | refine stp Go.TR.s_blocke ?_
    | refine stp (Go.TR.s_blocko rfl) ?_ | refine stp Go.TR.s_skip ?_ | refine stp Go.TR.s_ret ?_ | refine stp Go.TR.s_exit ?_
    | (refine' stpA (Go.TR.s_box rfl rfl rfl rfl) (fun b => ?_); rotate_left) | (refine' stpA (Go.TR.s_alloc rfl rfl rfl rfl) (fun b => ?_); rotate_left) | refine stp (Go.TR.s_condt rfl) ?_ | refine stp (Go.TR.s_condf rfl) ?_
    | (refine' stpA (Go.TR.s_bslice rfl rfl rfl rfl rfl rfl rfl rfl) (fun b => ?_); rotate_left) | refine stp Go.TR.s_loopr ?_ | refine stp Go.TR.s_loope ?_ | refine stp Go.TR.s_loopPr ?_
    | refine stp Go.TR.s_loopPe ?_ | refine stp (Go.TR.s_pureO rfl rfl rfl (by decide)) ?_ | refine stp (Go.TR.s_gpureO rfl rfl rfl rfl rfl (fun _ => by decide)) ?_ | refine stp (Go.TR.s_end rfl) ?_
    | refine stp (Go.TR.s_endn rfl) ?_ | refine stp (Go.TR.s_inend rfl) ?_ | refine stp (Go.TR.s_inendn rfl) ?_)
  exact fun h => h) : G := h () k
/-- What is left when all plain steps are done. -/
theorem runR {G : Prop} {H : Unit → Prop} (k : H ()) (h : ∀ u, H u → G := by
  intro u
  repeat (first
    | refine stp (Go.TR.s_pure rfl rfl rfl) ?_ | refine stp (Go.TR.s_loc rfl rfl) ?_ | refine stp (Go.TR.s_known rfl rfl rfl) ?_ | refine stp (Go.TR.s_unwanted rfl rfl rfl) ?_
    | refine stp (Go.TR.s_unwantedU rfl rfl rfl) ?_ | refine stp (Go.TR.s_unwantedG rfl rfl rfl rfl rfl) ?_ | refine stp (Go.TR.s_unwantedUG rfl rfl rfl rfl rfl) ?_ | refine stp (Go.TR.s_gpure rfl rfl rfl rfl rfl) ?_
    | refine stp (Go.TR.s_gloc rfl rfl rfl rfl) ?_ | refine stp (Go.TR.s_store rfl) ?_ | refine stp (Go.TR.s_pureG rfl rfl rfl rfl) ?_ | refine stp (Go.TR.s_pick rfl rfl rfl) ?_
    | refine stp (Go.TR.s_pickK rfl rfl) ?_ | refine stp (Go.TR.s_pick0 rfl rfl) ?_ | refine stp (Go.TR.s_gpick rfl rfl rfl rfl) ?_ | refine stp (Go.TR.s_locG rfl rfl rfl) ?_
    | refine stp Go.TR.s_nil ?_ | refine stp Go.TR.s_drop ?_ | refine stp Go.TR.s_back ?_ | refine stp Go.TR.s_seqn ?_
    | refine stp Go.TR.s_seqr ?_ | refine stp Go.TR.s_seqe ?_ | refine stp Go.TR.s_seq ?_ | refine stp Go.TR.s_block ?_
    | refine stp Go.TR.s_blockn ?_ | refine stp Go.TR.s_blockr ?_ | refine stp Go.TR.s_blocke ?_ | refine stp (Go.TR.s_blocko rfl) ?_
    | refine stp Go.TR.s_skip ?_ | refine stp Go.TR.s_ret ?_ | refine stp Go.TR.s_exit ?_ | (refine' stpA (Go.TR.s_box rfl rfl rfl rfl) (fun b => ?_); rotate_left)
    | (refine' stpA (Go.TR.s_alloc rfl rfl rfl rfl) (fun b => ?_); rotate_left) | refine stp (Go.TR.s_condt rfl) ?_ | refine stp (Go.TR.s_condf rfl) ?_ | (refine' stpA (Go.TR.s_bslice rfl rfl rfl rfl rfl rfl rfl rfl) (fun b => ?_); rotate_left)
    | refine stp Go.TR.s_loopr ?_ | refine stp Go.TR.s_loope ?_ | refine stp Go.TR.s_loopPr ?_ | refine stp Go.TR.s_loopPe ?_
    | refine stp (Go.TR.s_pureO rfl rfl rfl (by decide)) ?_ | refine stp (Go.TR.s_gpureO rfl rfl rfl rfl rfl (fun _ => by decide)) ?_ | refine stp (Go.TR.s_end rfl) ?_ | refine stp (Go.TR.s_endn rfl) ?_
    | refine stp (Go.TR.s_inend rfl) ?_ | refine stp (Go.TR.s_inendn rfl) ?_)
  exact fun h => h) : G := h () k
end Go.TR
