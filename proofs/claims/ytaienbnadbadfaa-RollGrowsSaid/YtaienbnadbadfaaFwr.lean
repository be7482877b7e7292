/-
A small program logic of our own for the model. Part r: appending to rows of the call's own, bytes read as a string, a callee that works on the caller's memory. Nothing here speaks of one program.
-/
import Derived.Test.YtaienbnadbadfaaFwi
import Derived.Deep.AppendSrc
import Derived.Deep.Upon
import Derived.Laws.BytesArg
import Derived.Laws.CopyRow
namespace Go.TR
variable {P : Program} {tb : Tb} {N : Nat}

theorem lkR_delR {rs : RL} {id k : Nat} : lkR (delR rs id) k = if k = id then none else lkR rs k := by
  induction rs with
  | nil => simp [delR, lkR]
  | cons p rs ih =>
    obtain ⟨m, r⟩ := p
    simp only [delR]
    by_cases hm : id = m
    · subst hm
      simp only [Nat.beq_refl]
      rw [ih, lkR_cons]
      by_cases hk : k = id <;> simp [hk]
    · rw [show Nat.beq id m = false from (by cases hb : Nat.beq id m with | false => rfl | true => exact absurd (Nat.eq_of_beq_eq_true hb) hm)]
      simp only []
      rw [lkR_cons, ih, lkR_cons]
      by_cases hk : k = m
      · subst hk
        rw [if_pos rfl, if_neg (fun e => hm e.symm), if_pos rfl]
      · rw [if_neg hk, if_neg hk]
theorem val_sub {rs rs' : RL} (h : ∀ k r, lkR rs' k = some r → lkR rs k = some r) {e : EV} {x : Value} (hx : e.val rs' = some x) : e.val rs = some x := by
  cases e with
  | v y => exact hx
  | loc id o =>
    simp only [EV.val] at hx ⊢
    split at hx
    · rename_i r hr; rw [h _ _ hr]; exact hx
    · simp at hx
  | row id o n c =>
    simp only [EV.val] at hx ⊢
    split at hx
    · rename_i r hr; rw [h _ _ hr]; exact hx
    · simp at hx

/-- A block gets a new name, and new cells; a name may go. -/
theorem renew_sat {c : Ctx} {g : GEnv} {env : Env} {F : Hp} {rs rs' : RL} {nx : Nat} {a : Act} {w w' : World} (h : GSat c N g ⟨env, F, rs, nx⟩ a w) (hsub : ∀ k r, lkR rs' k = some r → lkR rs k = some r) {b : Nat} {X : List Nat} (hp : Pres X w w') (hX : ∀ y ∈ X, y = b)
    (hF : F b = none) (hb : c.wE.heap.size ≤ b) (hdis : ∀ k r, lkR rs' k = some r → r.blk ≠ some b) {cur : Array Value} {t : TypeId} (hcur : w'.heap[b]? = some (.cells cur t (0, 0))) {cells : List EV} {cap : Nat} (hcap : cur.size = cap) (hlen : cells.length ≤ cap)
    (hlt : ∀ e ∈ cells, e.lt nx) (hcells : ∀ (j : Nat) (e : EV) (x : Value), cells[j]? = some e → e.val rs = some x → cur[j]? = some x) :
    GSat c N g ⟨env, F, (nx, ⟨some b, cells, t, cap⟩) :: rs', nx + 1⟩ a w' := by
  have hne : ∀ id r, lkR rs' id = some r → id ≠ nx := fun id r hr => by have := (h.rids id r (hsub _ _ hr)).1; simp only at this; omega
  have hval : ∀ e : EV, e.lt nx → ∀ x, e.val ((nx, ⟨some b, cells, t, cap⟩) :: rs') = some x → e.val rs = some x := fun e he x hx => by
    rw [val_cons he] at hx
    exact val_sub hsub hx
  have hle := h.wok.le.pres hp (fun y hy => by rw [hX y hy]; exact hF)
  exact {
    size := h.size
    defers := h.defers
    wok := {
      le := hle
      own := {
        own := fun id r hr => by
          rw [lkR_cons] at hr
          split at hr
          · simp only [Option.some.injEq] at hr
            subst hr
            refine ⟨hF, hlen, cur, hcur, hcap, fun j ev x hj hx => ?_⟩
            exact hcells j ev x hj (hval ev (hlt ev (List.mem_of_getElem? hj)) x hx)
          · have h1 := h.wok.own.own id r (hsub _ _ hr)
            have hd := hdis id r hr
            cases hbr : r.blk with
            | none => rw [hbr] at h1; exact h1
            | some b' =>
              rw [hbr] at h1
              obtain ⟨g1, g2, cur', g3, g4, g5⟩ := h1
              have hbb : b' ∉ X := fun hm => hd (by rw [hbr, hX _ hm])
              refine ⟨g1, g2, cur', (hp.block _ (lt_of_some g3) hbb).trans g3, g4, fun j ev x hj hx => g5 j ev x hj ?_⟩
              exact hval ev ((h.rids id r (hsub _ _ hr)).2 ev (List.mem_of_getElem? hj)) x hx
        apart := fun i j r s b' hi hj hbr hbs => by
          rw [lkR_cons] at hi hj
          split at hi
          · split at hj
            · omega
            · simp only [Option.some.injEq] at hi
              subst hi
              simp only [Option.some.injEq] at hbr
              subst hbr
              exact absurd hbs (hdis j s hj)
          · split at hj
            · simp only [Option.some.injEq] at hj
              subst hj
              simp only [Option.some.injEq] at hbs
              subst hbs
              exact absurd hbr (hdis i r hi)
            · exact h.wok.own.apart i j r s b' (hsub _ _ hi) (hsub _ _ hj) hbr hbs }
      pres := h.wok.pres.trans' hp (fun y hy => .inr (by rw [hX y hy]; exact hb))
      new := fun id r b' hr hbr => by
        rw [lkR_cons] at hr
        split at hr
        · simp only [Option.some.injEq] at hr
          subst hr
          simp only [Option.some.injEq] at hbr
          omega
        · exact h.wok.new id r b' (hsub _ _ hr) hbr
      fnew := h.wok.fnew }
    hist := Hist.cons {
      sub := h.hist.sub
      nxle := h.hist.nxle
      succ := fun id r hid hr => h.hist.succ id r hid (hsub _ _ hr) } _
    rids := fun id r hr => by
      simp only [lkR_cons] at hr
      split at hr
      · simp only [Option.some.injEq] at hr
        subst hr
        exact ⟨by simp only; omega, fun e he => (hlt e he).mono (Nat.le_succ _)⟩
      · obtain ⟨h1, h2⟩ := h.rids id r (hsub _ _ hr)
        exact ⟨by simp only at h1 ⊢; omega, fun e he => (h2 e he).mono (Nat.le_succ _)⟩
    ids := fun n e he => (h.ids n e he).mono (Nat.le_succ _)
    env := fun n e x hg he hx => h.env n e x hg he (hval e (h.ids n e he) x hx)
    gv := fun n ch e hg => by
      obtain ⟨h1, h2, h3, h4⟩ := h.gv n ch e hg
      exact ⟨fun hA => ⟨fun x hx => (h1 hA).1 x (hval e h3 x hx), (h1 hA).2⟩, h2, h3.mono (Nat.le_succ _), h4⟩ }

/-! ### What is appended -/
theorem und_slice (htb : TbOK P tb) {t e : TypeId} (h : tk tb t = some (.slice e)) : P.underlying t = some (.slice e) := by
  obtain ⟨d, h1, h2⟩ := und_of_tk htb h
  simp only [TK.fits] at h2
  rw [h1, h2]
theorem und_str (htb : TbOK P tb) {t : TypeId} (h : tk tb t = some .string) : P.underlying t = some .string := by
  obtain ⟨d, h1, h2⟩ := und_of_tk htb h
  simp only [TK.fits] at h2
  rw [h1, h2]
theorem addr_add0 (b o j : Nat) : ((⟨b, o, none⟩ : Addr).add j) = ⟨b, o + j, none⟩ := addr_add b o j
/-- The values of a stretch of a block's cells. -/
theorem stretch {c : Ctx} {g : GEnv} {st : St} {a : Act} {w : World} (h : GSat c N g st a w) {id : Nat} {r : Blk} {b : Nat} (hr : lkR st.rs id = some r) (hb : r.blk = some b) {o k : Nat} (hk : o + k ≤ r.cells.length) :
    ∃ vs : List Value, vs.length = k ∧ (∀ j u, vs[j]? = some u → w.cell? ⟨b, o + j, none⟩ = some u) ∧ ∀ (j : Nat) (e : EV) (x : Value), ((r.cells.take (o + k)).drop o)[j]? = some e → e.val st.rs = some x → vs[j]? = some x := by
  have hown := h.wok.own.own id r hr
  rw [hb] at hown
  obtain ⟨_, o2, cur, o3, o4, o5⟩ := hown
  refine ⟨(cur.toList.take (o + k)).drop o, by simp; omega, fun j u hj => ?_, fun j e x hj hx => ?_⟩
  · rw [List.getElem?_drop, List.getElem?_take] at hj
    split at hj
    · simp only [World.cell?, o3]
      simpa using hj
    · simp at hj
  · rw [List.getElem?_drop, List.getElem?_take] at hj ⊢
    split at hj
    · rename_i hlt
      rw [if_pos hlt]
      simpa using o5 _ e x hj hx
    · simp at hj
theorem frow_cell {F : Hp} {w : World} (hF : F.le w) {ad : Addr} {cs : List Value} (h : Frow F (some ad) cs) : ∀ j u, cs[j]? = some u → w.cell? (ad.add j) = some u := fun j u hj => by
  have := h j u hj
  simp only [padd, Option.map_some, Pcell, Option.bind_some] at this
  exact Fcell.world hF this
/-- The source of an append: the values behind the elements that the evaluator knows. -/
theorem src_ok (htb : TbOK P tb) {c : Ctx} {g : GEnv} {st : St} {a : Act} {w : World} (h : GSat c N g st a w) {t2 : TypeId} {size : Nat} (hs0 : 0 < size) (ht2 : srcTy (tk tb t2) = true) {y : Operand} {K : Nat → List EV → Prop} (hk : srcV st.F st.rs size (fun m news => oneAll st.rs news ∧ K m news) (opd st.rs g st.env [] y)) :
    ∃ m news vs, K m news ∧ Src P size t2 (a.eval y) m vs w ∧ vs.length = news.length ∧ (∀ e ∈ news, e.lt st.nx) ∧ ∀ (j : Nat) (e : EV) (x : Value), news[j]? = some e → e.val st.rs = some x → vs[j]? = some x := by
  have hrl : ∀ id r, lkR st.rs id = some r → id < st.nx := fun id r hr => (h.rids id r hr).1
  have hty : (∃ e, P.underlying t2 = some (.slice e)) ∨ P.underlying t2 = some .string := by
    unfold srcTy at ht2
    split at ht2
    · rename_i e he; exact .inl ⟨e, und_slice htb he⟩
    · rename_i he; exact .inr (und_str htb he)
    · cases ht2
  have hF := fits_opd h (gA_nil a)
  unfold srcV at hk
  split at hk
  · rename_i id o m cc hy
    have e1 := hF _ _ hy
    cases hr : lkR st.rs id with
    | none => simp [hr, srcR] at hk
    | some r =>
      simp only [EV.val, hr] at e1
      simp only [Option.some.injEq] at e1
      obtain ⟨rb, cells, ty, cap⟩ := r
      cases rb with
      | none =>
        simp only [hr, srcR] at hk
        obtain ⟨rfl, h1, h2⟩ := hk
        refine ⟨0, [], [], h2, ?_, rfl, fun e he => (by cases he), fun j e x hj => (by simp at hj)⟩
        rw [← e1]
        exact ⟨hty, fun _ => rfl, run_firstCells_none w size 0 0 cc, run_firstCells_none w.drew size 0 0 cc, by simp, fun _ h => by cases h⟩
      | some b =>
        simp only [hr, srcR] at hk
        obtain ⟨h1, h2, h3⟩ := hk
        obtain ⟨vs, v1, v2, v3⟩ := stretch h hr rfl h1
        have hl : ((cells.take (o + m * size)).drop o).length = m * size := by simp; omega
        refine ⟨m, _, vs, h3, ?_, by rw [v1, hl], fun e he => (h.rids id _ hr).2 e (List.mem_of_mem_take (List.mem_of_mem_drop he)), v3⟩
        rw [← e1]
        have hc : ∀ j u, vs[j]? = some u → w.cell? ((⟨b, o, none⟩ : Addr).add j) = some u := fun j u hj => by rw [addr_add0]; exact v2 j u hj
        refine ⟨hty, fun _ => rfl, run_firstCells_some w size m _ _ _ vs v1 hc, run_firstCells_some w.drew size m _ _ _ vs v1 (by simpa using hc), v1, fun u hu => ?_⟩
        obtain ⟨j, hj⟩ := List.getElem?_of_mem hu
        have hjl : j < ((cells.take (o + m * size)).drop o).length := by rw [hl, ← v1]; exact (List.getElem?_eq_some_iff.1 hj).1
        have he := List.getElem?_eq_getElem hjl
        obtain ⟨g1, x, g2⟩ := h2 _ (List.mem_of_getElem? he)
        have := v3 j _ x he g2
        rw [hj] at this
        simp only [Option.some.injEq] at this
        subst this
        exact one_spec g1 g2
  · rename_i p m cc hy
    have e1 := hF _ _ hy
    simp only [EV.val, Option.some.injEq] at e1
    obtain ⟨cs, h1, h2, h3, h4⟩ := hk
    refine ⟨m, _, cs, h4, ?_, by simp, fun e he => ?_, fun j e x hj hx => ?_⟩
    · rw [← e1]
      have hone : ∀ u ∈ cs, u.oneCell' = true := fun u hu => by
        obtain ⟨g1, x, g2⟩ := h3 (.v u) (List.mem_map.2 ⟨u, hu, rfl⟩)
        simp only [EV.val, Option.some.injEq] at g2
        exact one_spec (rs := st.rs) g1 rfl
      cases p with
      | none =>
        have : cs = [] := by
          cases cs with
          | nil => rfl
          | cons u t => have := h2 0 u rfl; simp [padd, Pcell] at this
        subst this
        have hm : m = 0 := by
          simp only [List.length_nil] at h1
          rcases Nat.mul_eq_zero.1 h1.symm with h0 | h0
          · exact h0
          · omega
        subst hm
        exact ⟨hty, fun _ => rfl, run_firstCells_none w size 0 0 cc, run_firstCells_none w.drew size 0 0 cc, by simp, fun _ h => by cases h⟩
      | some ad =>
        have hc := frow_cell h.wok.le h2
        exact ⟨hty, fun _ => rfl, run_firstCells_some w size m _ _ _ cs h1 hc, run_firstCells_some w.drew size m _ _ _ cs h1 (by simpa using hc), h1, hone⟩
    · obtain ⟨u, _, rfl⟩ := List.mem_map.1 he; trivial
    · rw [List.getElem?_map, Option.map_eq_some_iff] at hj
      obtain ⟨u, hu, rfl⟩ := hj
      simp only [EV.val, Option.some.injEq] at hx
      subst hx
      exact hu
  · rename_i s hy
    have e1 := hF _ _ hy
    simp only [EV.val, Option.some.injEq] at e1
    obtain ⟨rfl, h3, h4⟩ := hk
    refine ⟨_, _, byteCells s, h4, ?_, by simp [byteCells, bl], fun e he => ?_, fun j e x hj hx => ?_⟩
    · rw [← e1]
      have hl : s.size = (bl s).length := by simp [bl_size]
      rw [← hl]
      exact ⟨hty, fun _ => rfl, firstCells_string s w, firstCells_string s w.drew, by rw [byteCells_length, Nat.mul_one], fun u hu => by
        obtain ⟨_, _, rfl⟩ := List.mem_map.1 hu
        rfl⟩
    · obtain ⟨u, _, rfl⟩ := List.mem_map.1 he; trivial
    · rw [List.getElem?_map, Option.map_eq_some_iff] at hj
      obtain ⟨u, hu, rfl⟩ := hj
      simp only [EV.val, Option.some.injEq] at hx
      subst hx
      simp only [byteCells, List.getElem?_map]
      rw [show s.data.toList[j]? = some u from hu]
      rfl
  · exact hk.elim
/-! ### append -/
theorem info_of (htb : TbOK P tb) {e : TypeId} {ti : TI} (h : tb e = some ti) : ∃ i z, P.info? e = some i ∧ i.size = ti.size ∧ i.bytes = ti.bytes ∧ i.zero = some z ∧ z.cells.size = ti.zero.length := by
  obtain ⟨i, h1, h2, h3, z, h4, h5⟩ := (htb e ti h).info
  exact ⟨i, z, h1, h2, h3, h4, by rw [← h5]; simp⟩
theorem run_append_room_at (w : World) (t tx ty e : TypeId) (i : TypeInfo) (ht : P.underlying t = some (.slice e)) (hi : P.info? e = some i) (b sLen sCap : Nat) (x : Value) (n : Nat) (news : List Value) (hs : Src P i.size tx x n news w)
    (hroom : sLen + n ≤ sCap) {cur : Array Value} {ct : TypeId} (hcur : w.heap[b]? = some (.cells cur ct (0, 0))) (hfit : sLen * i.size + news.length ≤ cur.size) :
    (Builtin.append_ #[t, tx] ty #[.slice (some ⟨b, 0, none⟩) sLen sCap, x]).run P w = .ok (.slice (some ⟨b, 0, none⟩) (sLen + n) sCap) (w.setRow b (cur.toList.take (sLen * i.size) ++ news ++ cur.toList.drop (sLen * i.size + news.length)).toArray) := by
  have hst := run_storeCells_at (P := P) b (sLen * i.size) ct news 0 cur w hcur (by simpa using hfit) hs.one
  simp only [Nat.add_zero] at hst
  have h0 : (⟨b, 0, none⟩ : Addr).add (sLen * i.size) = ⟨b, sLen * i.size, none⟩ := by rw [addr_add0, Nat.zero_add]
  rcases hs.kind with ⟨e', hk⟩ | hk <;> simp [Builtin.append_, run_underlying ht, run_underlying hk, sizeOf, typeInfo, hi, hs.len, hroom, hs.cells, h0, hst]
theorem run_append_op {a : Act} {o : Oper} {args : Array Operand} {ts : Array TypeId} {x y : Operand} {t1 t2 : TypeId} (ho : o.op = .call ⟨.builtin .append, args, ts⟩) (ha : args.toList = [x, y]) (ht : ts.toList = [t1, t2]) {w w' : World} {v : Value}
    (h : (Builtin.append_ #[t1, t2] o.type #[a.eval x, a.eval y]).run P w = .ok v w') : (execOp a.eval o).run P w = .ok (.value v) w' := by
  have e1 : args = #[x, y] := by apply Array.ext'; simpa using ha
  have e2 : ts = #[t1, t2] := by apply Array.ext'; simpa using ht
  subst e1 e2
  simp [execOp, ho, resolve, invoke, builtin, h]

/-- Behind the growing arm. -/
theorem grow_sat {c : Ctx} {g : GEnv} {env : Env} {F : Hp} {rs rs' : RL} {nx : Nat} {a : Act} {w : World} (h : GSat c N g ⟨env, F, rs, nx⟩ a w) (hsub : ∀ k r, lkR rs' k = some r → lkR rs k = some r) {cells : List EV} {xs : List Value} {rest : Array Value} {e : TypeId} {cap : Nat}
    (hl : xs.length = cells.length) (hcap : xs.length + rest.size = cap) (hlt : ∀ e ∈ cells, e.lt nx) (hcells : ∀ (j : Nat) (e : EV) (x : Value), cells[j]? = some e → e.val rs = some x → xs[j]? = some x) :
    GSat c N g ⟨env, F, (nx, ⟨some w.heap.size, cells, e, cap⟩) :: rs', nx + 1⟩ a (w.drew.alloc (.cells (xs.toArray ++ rest) e)) := by
  have hs0 : w.drew.heap.size = w.heap.size := rfl
  have hp : Pres [] w (w.drew.alloc (.cells (xs.toArray ++ rest) e)) := (Pres.drewN [] w 1).trans (Pres.alloc [] w.drew _)
  have hfr : F w.heap.size = none := by
    cases hf : F w.heap.size with
    | none => rfl
    | some o => have := lt_of_some (h.wok.le _ _ hf); omega
  refine renew_sat h hsub hp (fun y hy => by cases hy) hfr h.wok.pres.size (fun k r hr hb => ?_) (cur := xs.toArray ++ rest) (by rw [← hs0]; exact heap_alloc_new w.drew _) (by simp [← hcap]) (by omega) hlt (fun j e x hj hx => ?_)
  · have := h.wok.own.lt (hsub _ _ hr) hb
    omega
  · have := hcells j e x hj hx
    have hj' := (List.getElem?_eq_some_iff.1 this).1
    rw [Array.getElem?_append_left (by simpa using hj')]
    simpa using this

theorem app_wp (htb : TbOK P tb) {c : Ctx} {g : GEnv} {st : St} {a : Act} {w : World} (h : GSat c N g st a w) {o : Oper} {args : Array Operand} {ts : Array TypeId} (ho : o.op = .call ⟨.builtin .append, args, ts⟩) {K : GEnv → St → Prop} {Q : Exit → Act → World → Prop} {K' : Act → World → Prop}
    (hK : ∀ g' st' a' w', GSat c N g' st' a' w' → K g' st' → K' a' w') {x y : Operand} {t1 t2 : TypeId} (ha : args.toList = [x, y]) (hts : ts.toList = [t1, t2])
    (hk : appV tb N o.dst K g st t2 (opd st.rs g st.env [] x) (opd st.rs g st.env [] y) (tk tb t1)) : o.wp P a w K' Q := by
  unfold appV at hk
  split at hk
  · rename_i e ht1
    obtain ⟨hst, hk⟩ := hk
    cases hti : tb e with
    | none => simp [hti, appS] at hk
    | some ti =>
      rw [hti] at hk
      simp only [appS] at hk
      obtain ⟨hs0, hb0, hz0, hk⟩ := hk
      obtain ⟨m, news, vs, hk, hsrc, hvl, hnlt, hnv⟩ := src_ok htb h hs0 hst hk
      obtain ⟨i, z, hi, hsz, hby, hz, hzs⟩ := info_of htb hti
      have hut := und_slice htb ht1
      have hF := fits_opd h (gA_nil a)
      have hsrc' : Src P i.size t2 (a.eval y) m vs w := by rw [hsz]; exact hsrc
      have hnl : vs.length = m * ti.size := hsrc.newsLen
      obtain ⟨env, F, rs, nx⟩ := st
      -- what is there behind the operation
      have fin : ∀ {rs' : RL} {olds : List EV} {b cap n : Nat} {w' : World}, GSat c N g ⟨env, F, (nx, ⟨some b, olds ++ news, e, cap * ti.size⟩) :: rs', nx + 1⟩ a w' → putV N [] o.dst (.row nx 0 (n + m) cap) K g ⟨env, F, (nx, ⟨some b, olds ++ news, e, cap * ti.size⟩) :: rs', nx + 1⟩ → K' (a.put o.dst (.slice (some ⟨b, 0, none⟩) (n + m) cap)) w' := fun {rs' olds b cap n w'} hs hput => by
        have hv : (EV.row nx 0 (n + m) cap).val ((nx, ⟨some b, olds ++ news, e, cap * ti.size⟩) :: rs') = some (.slice (some ⟨b, 0, none⟩) (n + m) cap) := by
          simp only [EV.val, lkR_cons, if_true]; rfl
        obtain ⟨g', st', h1, _, _, _, h2, _⟩ := putV_sat hs (ch := []) (e := .row nx 0 (n + m) cap) (by simp only [EV.lt]; omega) (fun _ => hv) (fun _ => trivial) (chfree_nil _ _) hput
        exact hK _ _ _ _ (h2 (gA_nil a)) h1
      have same : ∀ {ev : EV} {v : Value}, opd rs g env [] x = some ev → ev.val rs = some v → putV N [] o.dst ev K g ⟨env, F, rs, nx⟩ → K' (a.put o.dst v) w := fun {ev v} hev hv hput => by
        obtain ⟨g', st', h1, _, _, _, h2, _⟩ := putV_sat h (ch := []) (e := ev) (v := v) (opd_lt h [] _ _ hev) (fun _ => hv) (fun _ => trivial) (chfree_nil _ _) hput
        exact hK _ _ _ _ (h2 (gA_nil a)) h1
      -- the growing arm
      have grow : ∀ {p : Option Addr} {n cc : Nat} {oldE : List EV} {oldV : List Value} {rs' : RL}, a.eval x = .slice p n cc → (∀ k r, lkR rs' k = some r → lkR rs k = some r) → (Builtin.firstCells i.size n (.slice p n cc)).run P w.drew = .ok oldV.toArray w.drew → oldV.length = n * ti.size → oldE.length = oldV.length → (∀ e ∈ oldE, e.lt nx) →
          (∀ (j : Nat) (e : EV) (x : Value), oldE[j]? = some e → e.val rs = some x → oldV[j]? = some x) → cc < n + m → (n + m) * ti.bytes ≤ 140737488355328 →
          (∀ b cap, n + m ≤ cap → putV N [] o.dst (.row nx 0 (n + m) cap) K g ⟨env, F, (nx, ⟨some b, oldE ++ news, e, cap * ti.size⟩) :: rs', nx + 1⟩) → o.wp P a w K' Q := fun {p n cc oldE oldV rs'} hax hsub hold hol hoe hlt hov hg hby' hput => by
        have hnm : n + m ≤ (n + m) * ti.bytes := Nat.le_mul_of_pos_right _ hb0
        have hr := run_append_grow_src w t1 t2 o.type e i z hut hi hz p n cc oldV hold (a.eval y) m vs hsrc' hg (by omega) (growslice_fits hg (by rw [hby]; exact hby'))
        rw [← hax] at hr
        refine wp_of_run (run_append_op ho ha hts hr) ?_
        have hge := grownCap_ge w (n + m) cc e
        refine fin (olds := oldE) (rs' := rs') ?_ (hput _ _ hge)
        refine grow_sat h hsub (by simp [hoe, hvl]) ?_ (fun e he => ?_) (fun j e x hj hx => ?_)
        · rw [size_zeroCells, hzs, hz0, List.length_append, hol, hnl, ← Nat.add_mul, ← Nat.add_mul]
          congr 1
          omega
        · rcases List.mem_append.1 he with he | he
          · exact hlt e he
          · exact hnlt e he
        · rw [List.getElem?_append] at hj ⊢
          rw [← hoe]
          split
          · rename_i hlo
            rw [if_pos hlo] at hj
            exact hov j e x hj hx
          · rename_i hlo
            rw [if_neg hlo] at hj
            exact hnv _ e x hj hx
      unfold appD at hk
      split at hk
      · rename_i id n cc hx
        have e1 := hF _ _ hx
        simp only at hk hx
        cases hr : lkR rs id with
        | none => simp [hr, appR] at hk
        | some r =>
          have hsub : ∀ k r, lkR (delR rs id) k = some r → lkR rs k = some r := fun k r hkr => by
            rw [lkR_delR] at hkr
            split at hkr
            · cases hkr
            · exact hkr
          simp only [EV.val, hr, Option.some.injEq] at e1
          have hval : (EV.row id 0 n cc).val rs = some (a.eval x) := by simp only [EV.val, hr, e1]
          obtain ⟨rb, cells, ty, cap⟩ := r
          cases rb with
          | none =>
            simp only [hr, appR, appK] at hk
            obtain ⟨rfl, rfl, hk1, hk2⟩ := hk
            simp only [Option.map_none] at e1
            rcases Nat.eq_zero_or_pos m with hm | hm
            · have hvs : vs = [] := List.eq_nil_of_length_eq_zero (by rw [hnl, hm, Nat.zero_mul])
              subst hvs
              subst hm
              have hr := run_append_nothing w t1 t2 o.type e i hut hi none 0 0 (Nat.le_refl _) (a.eval y) hsrc'
              rw [e1] at hr
              exact wp_of_run (run_append_op ho ha hts hr) (same hx hval (hk1 rfl))
            · obtain ⟨hby', hput⟩ := hk2 hm
              exact grow (oldE := []) (oldV := []) e1.symm hsub (run_firstCells_none _ _ _ _ _) (by simp) rfl (fun e he => by cases he) (fun j e x hj => by simp at hj) (by omega) hby' hput
          | some b =>
            simp only [hr, appR, appK] at hk
            obtain ⟨rfl, hnc, hcap, hncells, hk1, hk2⟩ := hk
            simp only [Option.map_some] at e1
            rcases Nat.eq_zero_or_pos m with hm | hm
            · have hvs : vs = [] := List.eq_nil_of_length_eq_zero (by rw [hnl, hm, Nat.zero_mul])
              subst hvs
              subst hm
              have hr := run_append_nothing w t1 t2 o.type ty i hut hi (some ⟨b, 0, none⟩) n cc hnc (a.eval y) hsrc'
              rw [e1] at hr
              exact wp_of_run (run_append_op ho ha hts hr) (same hx hval (hk1 rfl))
            · obtain ⟨hby', hput⟩ := hk2 hm
              by_cases hroom : n + m ≤ cc
              · have hown := h.wok.own.own id _ hr
                simp only at hown
                obtain ⟨o1, o2, cur, o3, o4, o5⟩ := hown
                have hfit : n * ti.size + vs.length ≤ cur.size := by
                  rw [o4, hcap, hnl, ← Nat.add_mul]
                  exact Nat.mul_le_mul_right _ hroom
                have hrun := run_append_room_at w t1 t2 o.type ty i hut hi b n cc (a.eval y) m vs hsrc' hroom o3 (by rw [hsz]; exact hfit)
                rw [e1, hsz] at hrun
                refine wp_of_run (run_append_op ho ha hts hrun) ?_
                refine fin (olds := cells.take (n * ti.size)) (rs' := delR rs id) ?_ (hput b cc hroom)
                have hp : Pres [b] w (w.setRow b (cur.toList.take (n * ti.size) ++ vs ++ cur.toList.drop (n * ti.size + vs.length)).toArray) := ⟨rfl, rfl, rfl, by simp [World.setRow], fun k _ hk => setRow_other w b k _ (by simpa using hk)⟩
                refine renew_sat h hsub hp (fun y hy => by simpa using hy) o1 (h.wok.new id _ b hr rfl) (fun k r hkr hbr => ?_) (setRow_heap w b cur _ _ _ o3) ?_ ?_ (fun e he => ?_) (fun j e x hj hx => ?_)
                · rw [lkR_delR] at hkr
                  split at hkr
                  · cases hkr
                  · rename_i hne
                    exact hne (h.wok.own.apart k id r _ b hkr hr hbr rfl)
                · simp only [List.size_toArray, List.length_append, List.length_take, List.length_drop, Array.length_toList]
                  omega
                · rw [List.length_append, List.length_take, ← hvl]
                  omega
                · rcases List.mem_append.1 he with he | he
                  · exact (h.rids id _ hr).2 e (List.mem_of_mem_take he)
                  · exact hnlt e he
                · simp only [List.getElem?_toArray]
                  rw [List.append_assoc, List.getElem?_append]
                  rw [List.getElem?_append] at hj
                  have e2 : (cells.take (n * ti.size)).length = n * ti.size := by simp; omega
                  have e3 : (cur.toList.take (n * ti.size)).length = n * ti.size := by simp; omega
                  rw [e2] at hj
                  rw [e3]
                  split
                  · rename_i hlo
                    rw [if_pos hlo, List.getElem?_take, if_pos hlo] at hj
                    rw [List.getElem?_take, if_pos hlo]
                    simpa using o5 j e x hj hx
                  · rename_i hlo
                    rw [if_neg hlo] at hj
                    have := hnv _ e x hj hx
                    rw [List.getElem?_append_left (List.getElem?_eq_some_iff.1 this).1]
                    exact this
              · obtain ⟨vs0, v1, v2, v3⟩ := stretch h (st := ⟨env, F, rs, nx⟩) hr rfl (o := 0) (k := n * ti.size) (by simpa using hncells)
                refine grow (oldE := cells.take (n * ti.size)) (oldV := vs0) e1.symm hsub ?_ v1 (by rw [v1]; simp; omega) (fun e he => (h.rids id _ hr).2 e (List.mem_of_mem_take he)) (fun j e x hj hx => v3 j e x (by simpa using hj) hx) (by omega) hby' hput
                rw [hsz]
                exact run_firstCells_some w.drew ti.size n _ _ _ vs0 v1 (fun j u hj => by rw [addr_add0]; simpa using v2 j u hj)
      · rename_i p n cc hx
        have e1 := hF _ _ hx
        simp only [EV.val, Option.some.injEq] at e1
        simp only [appF, appK] at hk
        obtain ⟨rfl, cs, hcl, hfr, hk1, hk2⟩ := hk
        rcases Nat.eq_zero_or_pos m with hm | hm
        · have hvs : vs = [] := List.eq_nil_of_length_eq_zero (by rw [hnl, hm, Nat.zero_mul])
          subst hvs
          subst hm
          have hr := run_append_nothing w t1 t2 o.type e i hut hi p n n (Nat.le_refl _) (a.eval y) hsrc'
          rw [e1] at hr
          exact wp_of_run (run_append_op ho ha hts hr) (same hx (by simp only [EV.val, e1]) (hk1 rfl))
        · obtain ⟨hby', hput⟩ := hk2 hm
          refine grow (oldE := cs.map .v) (oldV := cs) e1.symm (fun k r hkr => hkr) ?_ hcl (by simp) (fun e he => by obtain ⟨u, _, rfl⟩ := List.mem_map.1 he; trivial) (fun j e x hj hx => ?_) (by omega) hby' hput
          · cases p with
            | none =>
              have : cs = [] := by
                cases cs with
                | nil => rfl
                | cons u t => have := hfr 0 u rfl; simp [padd, Pcell] at this
              subst this
              exact run_firstCells_none _ _ _ _ _
            | some ad =>
              rw [hsz]
              exact run_firstCells_some w.drew ti.size n _ _ _ cs hcl (fun j u hj => by simpa using frow_cell h.wok.le hfr j u hj)
          · rw [List.getElem?_map, Option.map_eq_some_iff] at hj
            obtain ⟨u, hu, rfl⟩ := hj
            simp only [EV.val, Option.some.injEq] at hx
            subst hx
            exact hu
      · exact hk.elim
  · exact hk.elim

/-! ### Bytes read as a string -/
theorem strOfNums_bytes (bs : List UInt8) : strOfNums (bs.map fun b => (b.toNat : Int)) = mkB bs := by
  unfold strOfNums mkB
  congr 2
  rw [List.map_map]
  conv => rhs; rw [← List.map_id bs]
  apply List.map_congr_left
  intro b _
  simp
theorem str_wp (htb : TbOK P tb) {c : Ctx} {g : GEnv} {st : St} {a : Act} {w : World} (h : GSat c N g st a w) {o : Oper} {s t : TypeId} {x : Operand} (ho : o.op = .convert s t x) {K : GEnv → St → Prop} {Q : Exit → Act → World → Prop} {K' : Act → World → Prop}
    (hK : ∀ g' st' a' w', GSat c N g' st' a' w' → K g' st' → K' a' w') (hs : isByteSlice tb (tk tb s) = true) (ht : isStr (tk tb t) = true) (hk : strV st.F st.rs (fun bs => putV N [] o.dst (.v (S bs)) K g st) (opd st.rs g st.env [] x)) : o.wp P a w K' Q := by
  obtain ⟨e, hu, he⟩ : ∃ e, P.underlying s = some (.slice e) ∧ P.underlying e = some (.int .u8) := by
    unfold isByteSlice at hs
    split at hs
    · rename_i e h1
      split at hs
      · rename_i h2
        refine ⟨e, und_slice htb h1, ?_⟩
        obtain ⟨d, h3, h4⟩ := und_of_tk htb h2
        simp only [TK.fits] at h4
        rw [h3, h4]
      · cases hs
    · cases hs
  have hd : P.underlying t = some .string := by
    unfold isStr at ht
    split at ht
    · rename_i h1; exact und_str htb h1
    · cases ht
  have hF := fits_opd h (gA_nil a)
  have fin : ∀ bs : List UInt8, (convert s t (a.eval x)).run P w = .ok (S bs) w → putV N [] o.dst (.v (S bs)) K g st → o.wp P a w K' Q := fun bs hrun hput => by
    obtain ⟨g', st', h1, _, _, _, h2, _⟩ := putV_sat h (ch := []) (e := .v (S bs)) (v := S bs) trivial (fun _ => rfl) (fun _ => trivial) (chfree_nil _ _) hput
    refine wp_of_run ?_ (hK _ _ _ _ (h2 (gA_nil a)) h1)
    simp only [execOp, ho, run_bind, hrun, run_pure]
  unfold strV at hk
  split at hk
  · rename_i id off m cc hx
    have e1 := hF _ _ hx
    cases hr : lkR st.rs id with
    | none => simp [hr, srcR] at hk
    | some r =>
      simp only [EV.val, hr, Option.some.injEq] at e1
      obtain ⟨rb, cells, ty, cap⟩ := r
      cases rb with
      | none =>
        simp only [hr, srcR] at hk
        obtain ⟨rfl, bs, h1, h2⟩ := hk
        have : bs = [] := by cases bs with | nil => rfl | cons u l => simp at h1
        subst this
        refine fin [] ?_ h2
        rw [← e1]
        exact run_convert_bytes_nil w s e hu he 0 cc t hd
      | some b =>
        simp only [hr, srcR, Nat.mul_one] at hk
        obtain ⟨h1, bs, h2, h3⟩ := hk
        obtain ⟨vs, v1, v2, v3⟩ := stretch h hr rfl h1
        have hbl : bs.length = m := by
          have := congrArg List.length h2
          simp at this
          omega
        refine fin bs ?_ h3
        rw [← e1]
        have := run_convert_bytes_arg w s e hu he b off m cc (bs.map fun b => (b.toNat : Int)) (by simpa using hbl) (fun i hi => by
          have hlt : i < bs.length := by omega
          have e2 : ((cells.take (off + m)).drop off)[i]? = some (.v (.int .u8 (bs[i].toNat : Int))) := by
            rw [h2]; simp [hlt]
          have := v2 i _ (v3 i _ _ e2 rfl)
          rw [this]
          simp [List.getD, hlt]) t hd
        rw [strOfNums_bytes] at this
        exact this
  · rename_i p m cc hx
    have e1 := hF _ _ hx
    simp only [EV.val, Option.some.injEq] at e1
    obtain ⟨bs, h1, h2, h3⟩ := hk
    refine fin bs ?_ h3
    rw [← e1]
    cases p with
    | none =>
      have : bs = [] := by
        cases bs with
        | nil => rfl
        | cons u l => have := h2 0 _ rfl; simp [padd, Pcell] at this
      subst this
      simp only [List.length_nil] at h1
      subst h1
      exact run_convert_bytes_nil w s e hu he 0 cc t hd
    | some ad =>
      have hl : (loadCells ad m).run P w = .ok ((bs.map fun b => (b.toNat : Int)).map (Value.int .u8)).toArray w := by
        have := run_loadCells_list (P := P) w ad (bs.map fun b => Value.int .u8 (b.toNat : Int)) (frow_cell h.wok.le h2)
        rw [List.length_map, h1] at this
        rw [this, List.map_map]
        rfl
      rw [run_convert_bytes_string w s t e _ m cc hu he hd, run_bytesToString w ad m cc _ hl, foldl_push_bytes]
      have := strOfNums_bytes bs
      unfold strOfNums at this
      simp only [S, ← this]
      simp [ByteArray.empty, ByteArray.emptyWithCapacity]
      rfl
  · exact hk.elim

/-! ### A callee that works on the caller's memory -/
theorem WOK.ctx {c c' : Ctx} {F : Hp} {rs : RL} {w : World} (h : WOK c F rs w) (h1 : c'.wE = c.wE) (h2 : c'.F0 = c.F0) : WOK c' F rs w where
  le := h.le
  own := h.own
  pres := by rw [h1]; exact h.pres
  new := by rw [h1]; exact h.new
  fnew := by rw [h1, h2]; exact h.fnew
theorem evs_allV {rs : RL} {ρ : Operand → Option EV} {ρ' : Operand → Value} (hρ : Fits rs ρ ρ') : ∀ {l : List Operand} {es : List EV}, evs ρ l = some es → allV rs es = some (l.map ρ')
  | [], es, h => by simp only [evs, Option.some.injEq] at h; subst h; rfl
  | o :: l, es, h => by
    simp only [evs] at h
    split at h
    · rename_i e es' he hes
      simp only [Option.some.injEq] at h
      subst h
      have := evs_allV hρ hes
      simp only [allV, hρ _ _ he, this, List.map_cons]
    · simp at h
theorem allV_append {rs : RL} : ∀ {l1 l2 : List EV} {x1 x2 : List Value}, allV rs l1 = some x1 → allV rs l2 = some x2 → allV rs (l1 ++ l2) = some (x1 ++ x2)
  | [], l2, x1, x2, h1, h2 => by simp only [allV, Option.some.injEq] at h1; subst h1; simpa using h2
  | e :: l1, l2, x1, x2, h1, h2 => by
    simp only [allV] at h1
    split at h1
    · rename_i x xs hx hxs
      simp only [Option.some.injEq] at h1
      subst h1
      have := allV_append hxs h2
      simp only [List.cons_append, allV, hx, this]
    · simp at h1
theorem allV_map_v {rs : RL} : ∀ (l : List Value), allV rs (l.map .v) = some l
  | [] => rfl
  | x :: l => by simp only [List.map_cons, allV, EV.val, allV_map_v l]
theorem val_succ {c : Ctx} {F : Hp} {rs : RL} {nx : Nat} (h : Hist c F rs nx) {e : EV} (he : e.lt c.nx0) {x : Value} (hx : e.val rs = some x) : e.val c.rs0 = some x := by
  cases e with
  | v y => exact hx
  | loc id o =>
    simp only [EV.val] at hx ⊢
    split at hx
    · rename_i r hr
      obtain ⟨r0, h1, h2⟩ := h.succ id r he hr
      rw [h1]
      simp only [h2]
      exact hx
    · simp at hx
  | row id o n c' =>
    simp only [EV.val] at hx ⊢
    split at hx
    · rename_i r hr
      obtain ⟨r0, h1, h2⟩ := h.succ id r he hr
      rw [h1]
      simp only [h2]
      exact hx
    · simp at hx
theorem in_wp {c : Ctx} {g : GEnv} {st : St} {a : Act} {w : World} (h : GSat c N g st a w) {o : Oper} {f : Operand} {args : Array Operand} {ts : Array TypeId} (ho : o.op = .call ⟨.value f, args, ts⟩) {K : GEnv → St → Prop} {Q : Exit → Act → World → Prop} {K' : Act → World → Prop}
    (hK : ∀ g' st' a' w', GSat c N g' st' a' w' → K g' st' → K' a' w') (hk : inGo P N o.dst K g st (opd st.rs g st.env [] f) (evs (opd st.rs g st.env []) args.toList)) : o.wp P a w K' Q := by
  have hF := fits_opd h (gA_nil a)
  obtain ⟨env, F, rs, nx⟩ := st
  unfold inGo at hk
  split at hk
  · rename_i env F rs nx n first captured es hst hf he
    simp only [St.mk.injEq] at hst
    obtain ⟨rfl, rfl, rfl, rfl⟩ := hst
    obtain ⟨hb, QQ, hc, hq⟩ := hk
    have e1 := hF _ _ hf
    simp only [EV.val, Option.some.injEq] at e1
    have e2 := evs_allV hF he
    have e3 := allV_append (allV_append (allV_map_v (rs := rs) first.toList) e2) (allV_map_v (rs := rs) captured.toList)
    have e4 : first ++ args.map a.eval ++ captured = (first.toList ++ args.toList.map a.eval ++ captured.toList).toArray := by
      apply Array.ext'
      simp
    unfold Oper.wp
    rw [run_call ho e1.symm hb, Oper.upon_enter, e4]
    refine (hc ⟨c.wE, c.F0, F, rs, nx⟩ w (h.wok.ctx rfl rfl) ⟨Hp.sub.refl F, Nat.le_refl _, fun id r _ hr => ⟨r, hr, rfl⟩⟩ h.rids rfl rfl rfl _ e3).mono fun e w' ⟨x, ev, F', rs', nx', he', hw', hh', hr', hlt, hv, hQ⟩ => ?_
    subst he'
    have hs : GSat c N g ⟨env, F', rs', nx'⟩ a w' := {
      size := h.size
      defers := h.defers
      wok := hw'.ctx rfl rfl
      hist := {
        sub := h.hist.sub.trans hh'.sub
        nxle := Nat.le_trans h.hist.nxle hh'.nxle
        succ := fun id r hid hr => by
          obtain ⟨r0, h1, h2⟩ := hh'.succ id r (Nat.lt_of_lt_of_le hid h.hist.nxle) hr
          obtain ⟨r1, h3, h4⟩ := h.hist.succ id r0 hid h1
          exact ⟨r1, h3, h4.trans h2⟩ }
      rids := hr'
      ids := fun n e he => (h.ids n e he).mono hh'.nxle
      env := fun n e x hg he hx => h.env n e x hg he (val_succ hh' (h.ids n e he) hx)
      gv := fun n ch e hg => by
        obtain ⟨h1, h2, h3, h4⟩ := h.gv n ch e hg
        exact ⟨fun hA => ⟨fun x hx => (h1 hA).1 x (val_succ hh' h3 hx), (h1 hA).2⟩, h2, h3.mono hh'.nxle, h4⟩ }
    have hput := hq ev F' rs' nx' hh'.sub hh'.nxle hQ
    cases hd : o.dst with
    | none =>
      rw [hd] at hput
      exact hK _ _ _ _ hs hput
    | some d =>
      rw [hd] at hput
      obtain ⟨g', st', h1, _, _, _, h2, _⟩ := putV_sat hs (ch := []) (d := some d) (e := ev) (v := x) hlt (fun _ => hv) (fun _ => trivial) (chfree_nil _ _) hput
      exact hK _ _ _ _ (h2 (gA_nil a)) h1
  · exact hk.elim
theorem mem_wp (htb : TbOK P tb) {c : Ctx} {g : GEnv} {st : St} {a : Act} {w : World} (h : GSat c N g st a w) {o : Oper} {K : GEnv → St → Prop} {Q : Exit → Act → World → Prop} {K' : Act → World → Prop}
    (hK : ∀ g' st' a' w', GSat c N g' st' a' w' → K g' st' → K' a' w') (hk : memV P tb N o.dst K g st o.op) : o.wp P a w K' Q := by
  cases ho : o.op with
  | call cc =>
    rw [ho] at hk
    obtain ⟨callee, args, ts⟩ := cc
    cases callee with
    | value f => exact in_wp h ho hK hk
    | builtin b =>
      cases b with
      | append =>
        obtain ⟨x, y, t1, t2, h1, h2, h3⟩ := hk
        exact app_wp htb h ho hK h1 h2 h3
      | _ => exact hk.elim
    | invoke r m => exact hk.elim
  | convert s t x =>
    rw [ho] at hk
    exact str_wp htb h ho hK hk.1 hk.2.1 hk.2.2
  | _ => rw [ho] at hk; exact hk.elim
theorem sem_wp {c : Ctx} {g : GEnv} {st : St} {a : Act} {w : World} (h : GSat c N g st a w) {o : Oper} {K : GEnv → St → Prop} {Q : Exit → Act → World → Prop} {K' : Act → World → Prop}
    (hK : ∀ g' st' a' w', GSat c N g' st' a' w' → K g' st' → K' a' w') (hk : semV P N o.dst K g st o.op) : o.wp P a w K' Q := by
  obtain ⟨e, st', hr, hput⟩ := hk
  obtain ⟨v, w', h1, h2, h3⟩ := hr c a w o h rfl
  refine wp_of_run h1 ?_
  cases hd : o.dst with
  | none =>
    rw [hd] at hput
    exact hK _ _ _ _ h2 hput
  | some d =>
    rw [hd] at hput
    obtain ⟨g', st'', g1, _, _, _, g2, _⟩ := putV_sat h2 (ch := []) (d := some d) (e := e) (v := v) (lt_of_val (fun id r hr => (h2.rids id r hr).1) h3) (fun _ => h3) (fun _ => trivial) (chfree_nil _ _) hput
    exact hK _ _ _ _ (g2 (gA_nil a)) g1
end Go.TR
