/-
A small program logic of our own for the model. Part i: operations that make or write memory, calls that hand memory over; lists of operations. Nothing here speaks of one program.
-/
import Derived.Test.YtaienbnadbadfaaFwh
namespace Go.TR
variable {P : Program} {tb : Tb} {N : Nat}

/-! ### Lists of quiet operations -/
theorem GSat.world {c : Ctx} {g : GEnv} {st : St} {a : Act} {w w' : World} (h : GSat c N g st a w) (hw : C c st w') : GSat c N g st a w' := { h with wok := hw }

theorem ops_quiet (htb : TbOK P tb) {c : Ctx} {ops : Array Oper} {K : GEnv → St → Prop} : ∀ (l : List Oper) (g : GEnv) (st : St) (a : Act) (w : World), GSat c N g st a w → vcOps P tb N true ops.toList l K g st →
    wpQuiet P ops (C c st) (fun a' => ∃ g' st', K g' st' ∧ ∀ w', C c st w' → GSat c N g' st' a' w') l a
  | [], g, st, a, w, h, hk => ⟨g, st, hk, fun w' hw' => h.world hw'⟩
  | o :: l, g, st, a, w, h, hk => by
    obtain ⟨v, g', st', hK, hF, hrs, _, h1, h2⟩ := quiet_step htb h (o := o) hk
    have hC : C c st' = C c st := by unfold C; rw [hF, hrs]
    unfold wpQuiet
    split
    · rename_i hw
      obtain ⟨hq, hs⟩ := h1 hw
      refine ⟨v, hq _ (rd_wok c st), ?_⟩
      have := ops_quiet htb l g' st' _ w hs hK
      rw [hC] at this
      exact this
    · rename_i hw
      have := ops_quiet htb l g' st' _ w (h2 hw) hK
      rw [hC] at this
      exact this

/-! ### A region whose last operations come up one by one, behind all others -/
section
variable {ops : Array Oper} {md : Region.Mode} {C : World → Prop}
/-- The first f operations, in whatever order; then L. -/
def HeadQ (P : Program) (md : Region.Mode) (ops : Array Oper) (C : World → Prop) (n : Nat) (L : Array Bool → Act → Prop) : Nat → Array Bool → Act → Prop
  | 0, done, a => L done a
  | f + 1, done, a => Region.ready md ops done ≠ [] ∧ ∀ i ∈ Region.ready md ops done, i < n ∧ qOp P ops C i (HeadQ P md ops C n L f (done.setIfInBounds i true)) a
theorem HeadQ.any {n k : Nat} {L : Array Bool → Act → Prop} {Q : Exit → Act → World → Prop} (hL : ∀ done a, L done a → ∀ w, C w → wpAny P md ops Q k done a w) :
    ∀ (f : Nat) (done : Array Bool) (a : Act) (w : World), C w → HeadQ P md ops C n L f done a → wpAny P md ops Q (f + k) done a w := by
  intro f
  induction f with
  | zero => intro done a w hw h; rw [Nat.zero_add]; exact hL _ _ h w hw
  | succ f ih =>
    intro done a w hw h
    have e : f + 1 + k = (f + k) + 1 := by omega
    rw [e]
    exact ⟨fun h0 => absurd h0 h.1, fun i hi => wpOp_of_qOp hw (fun a' w' hw' h' => ih _ a' w' hw' h') (h.2 i hi).2⟩
/-- What may come first may be taken first. -/
theorem HeadQ.first {n i : Nat} {oi : Oper} {v : Value} {L : Array Bool → Act → Prop} (hi : ops[i]? = some oi) (hsel : ∀ (j : Nat) (o : Oper) cs b, ops[j]? = some o → o.op ≠ .select cs b)
    (hs : Region.sinkB md ops n = true) (hc : Region.chainB md ops n = true) (hn : n < ops.size) (hin : i < n) (hdone : ∀ done a, L done a → ∀ j ∈ Region.ready md ops done, n ≤ j) :
    ∀ (f : Nat) (done : Array Bool) (a : Act), HeadInv md ops n done →
      (∀ j oj, ops[j]? = some oj → j ≠ i → done.getD j true = false → (∀ e ∈ oj.after, Region.binds md e = true → e.on ≠ i) → oi.apart ops oj = true) →
      i ∈ Region.ready md ops done → YieldsIn P ops C oi v a → HeadQ P md ops C n L f (done.setIfInBounds i true) (a.put oi.dst v) → HeadQ P md ops C n L (f + 1) done a := by
  intro f
  induction f with
  | zero =>
    intro done a inv _ hr hy H
    refine ⟨fun h => (by rw [h] at hr; cases hr), fun j hj => ?_⟩
    have hjn : j < n := Nat.lt_of_not_le fun h => tail_waits hs hc hn inv _ i rfl hin (mem_ready.1 hr).1 j h hj
    refine ⟨hjn, ?_⟩
    by_cases hji : j = i
    · subst hji; exact hy.qOp hi H
    · have := hdone _ _ H j (ready_mono hj hji)
      omega
  | succ f ih =>
    intro done a inv hfree hr hy H
    have hun := (mem_ready.1 hr).1
    refine ⟨fun h => (by rw [h] at hr; cases hr), fun j hj => ?_⟩
    have hjn : j < n := Nat.lt_of_not_le fun h => tail_waits hs hc hn inv _ i rfl hin hun j h hj
    refine ⟨hjn, ?_⟩
    by_cases hji : j = i
    · subst hji; exact hy.qOp hi H
    · obtain ⟨hjun, oj, hoj, hall⟩ := mem_ready.1 hj
      have hnot : ∀ e ∈ oj.after, Region.binds md e = true → e.on ≠ i := fun e he hb heq => by
        have h1 := hall e he hb
        rw [heq, getD_both hun] at h1
        cases h1
      have h2 := qOp_put hoj (hfree j oj hoj hji hjun hnot) (fun cs b => hsel i oi cs b hi) (fun cs b => hsel j oj cs b hoj) hy (H.2 j (ready_mono hj hji)).2
      refine qOp_mono (fun a' h3 => ih (done.setIfInBounds j true) a' (inv.set hj hjn) (fun k ok hk hki hu hno => hfree k ok hk hki ?_ hno) (ready_mono hr (Ne.symm hji)) h3.1 ?_) h2
      · by_cases hjk : j = k
        · subst hjk; exact hjun
        · rw [getD_set_ne true hjk] at hu; exact hu
      · rw [Array.setIfInBounds_comm _ _ hji]
        exact h3.2
theorem HeadQ.lex {n k : Nat} {R : Act → Prop} (hsel : Region.noSelect ops = true) (hs : Region.sinkB md ops n = true) (hc : Region.chainB md ops n = true) (hn : n < ops.size) :
    ∀ (l : List Oper) (m : Nat) (done : Array Bool) (a : Act), (∀ j, j < l.length → l[j]? = ops[m + j]?) → m + l.length = n → HeadInv md ops n done → Region.lexHead md ops k l.length m done = true → wpQuiet P ops C R l a →
    HeadQ P md ops C n (fun done' a' => Region.seqB md ops k n done' = true ∧ R a') l.length done a := by
  intro l
  induction l with
  | nil =>
    intro m done a _ hk _ hB h
    have : m = n := by simpa using hk
    subst this
    exact ⟨by simpa [Region.lexHead] using hB, h⟩
  | cons o l ih =>
    intro m done a hl hk inv hB h
    have h0 : ops[m]? = some o := by simpa using (hl 0 (by simp)).symm
    simp only [List.length_cons, Region.lexHead, Bool.and_eq_true] at hB
    obtain ⟨⟨hr, hf⟩, hB'⟩ := hB
    have hmn : m < n := by simp only [List.length_cons] at hk; omega
    have hr' : m ∈ Region.ready md ops done := by simpa using hr
    have hst : qOp P ops C m (wpQuiet P ops C R l) a := by unfold qOp; simp only [h0]; exact h
    obtain ⟨v, hy, hK⟩ := yieldsIn_of_qOp h0 hst
    exact HeadQ.first h0 (Region.noSelect_spec hsel) hs hc hn hmn (fun done' a' hL => seqB_ready hL.1) l.length done a inv (Region.free_spec h0 hf) hr' hy
      (ih (m + 1) _ _ (fun j hj => by have := hl (j + 1) (by simp; omega); simpa [Nat.add_assoc, Nat.add_comm 1 j] using this) (by simp only [List.length_cons] at hk; omega) (inv.set hr' hmn) hB' hK)
theorem wp_region_head {id : Nat} {Q : Exit → Act → World → Prop} {a : Act} {w : World} {l : List Oper} (n : Nat) (hm : P.follows .mixedOrders = true) (hB : Region.lexTailB .any l.toArray n = true) (hC : C { w with drawn := w.drawn + 1 })
    (h : wpQuiet P l.toArray C (fun a' => ∀ w', C w' → wpList P l.toArray Q (l.drop n) a' w') (l.take n) a) : (Code.region id l.toArray true).wp P Q a w := by
  simp only [Region.lexTailB, Bool.and_eq_true, decide_eq_true_eq] at hB
  obtain ⟨⟨⟨⟨hsel, hn⟩, hs⟩, hc⟩, hlex⟩ := hB
  have hn' : n < l.length := by simpa using hn
  have htl : (l.take n).length = n := by simp; omega
  have hdl : (l.drop n).length = l.toArray.size - n := by simp
  have inv0 : HeadInv .any l.toArray n (Array.replicate l.toArray.size false) :=
    ⟨by simp, fun j oj _ hl => (by rw [getD_replicate_false] at hl; cases hl), fun t _ ht => getD_in (by simpa using ht) (getD_replicate_false _ _)⟩
  have H := HeadQ.lex (md := .any) (k := l.toArray.size - n) hsel hs hc hn (l.take n) 0 _ a (fun j hj => by
    have hj' : j < n := by rw [htl] at hj; exact hj
    simp [hj']) (by simpa using htl) inv0 (by rw [htl]; exact hlex) h
  refine wp_region_any hm ?_
  have := HeadQ.any (Q := Q) (k := l.toArray.size - n) (fun done a' hL w' hw' => by
    have := wpAny_of_seq (md := .any) (Q' := Q) (l.drop n) n done a' w' (fun j => by simp [List.getElem?_drop]) (by rw [hdl]; exact hL.1) (hL.2 w' hw')
    rwa [hdl] at this) _ _ _ { w with drawn := w.drawn + 1 } hC H
  rw [htl, show n + (l.toArray.size - n) = l.toArray.size by omega] at this
  exact this
end

/-! ### New blocks -/
theorem Hist.cons {c : Ctx} {F : Hp} {rs : RL} {nx : Nat} (h : Hist c F rs nx) (r : Blk) : Hist c F ((nx, r) :: rs) (nx + 1) where
  sub := h.sub
  nxle := Nat.le_succ_of_le h.nxle
  succ := fun id r' hid hr => by
    have := h.nxle
    rw [lkR_cons, if_neg (by omega)] at hr
    exact h.succ id r' hid hr
theorem val_cons {rs : RL} {nx : Nat} {r : Blk} {e : EV} (h : e.lt nx) : e.val ((nx, r) :: rs) = e.val rs := by
  cases e with
  | v x => rfl
  | loc id o =>
    have : id ≠ nx := by simp only [EV.lt] at h; omega
    simp only [EV.val, lkR_cons, if_neg this]
  | row id o n c =>
    have : id ≠ nx := by simp only [EV.lt] at h; omega
    simp only [EV.val, lkR_cons, if_neg this]
theorem EV.lt.mono {e : EV} {m n : Nat} (h : e.lt m) (hm : m ≤ n) : e.lt n := by
  cases e <;> simp only [EV.lt] at * <;> omega
theorem Owned.lt {F : Hp} {rs : RL} {w : World} (h : Owned F rs w) {id : Nat} {r : Blk} {b : Nat} (hr : lkR rs id = some r) (hb : r.blk = some b) : b < w.heap.size := by
  have := h.own id r hr
  rw [hb] at this
  obtain ⟨_, _, cur, h1, _⟩ := this
  exact lt_of_some h1

theorem alloc_sat {c : Ctx} {g : GEnv} {env : Env} {F : Hp} {rs : RL} {nx : Nat} {a : Act} {w : World} (h : GSat c N g ⟨env, F, rs, nx⟩ a w) {cells : List EV} {cs : Array Value} {t : TypeId} (hl : cs.size = cells.length) (hlt : ∀ e ∈ cells, e.lt nx)
    (hcs : ∀ (j : Nat) (e : EV) (x : Value), cells[j]? = some e → e.val rs = some x → cs[j]? = some x) :
    GSat c N g ⟨env, F, (nx, ⟨some w.heap.size, cells, t, cells.length⟩) :: rs, nx + 1⟩ a (w.alloc (.cells cs t)) := by
  have hfr : F w.heap.size = none := by
    cases hf : F w.heap.size with
    | none => rfl
    | some o => have := lt_of_some (h.wok.le _ _ hf); omega
  have hp : Pres [] w (w.alloc (.cells cs t)) := Pres.alloc [] w _
  have hw := h.wok.pres' hp
  have hrlt : ∀ id r, lkR rs id = some r → id ≠ nx := fun id r hr => by have := (h.rids id r hr).1; simp only at this; omega
  exact {
    size := h.size
    defers := h.defers
    wok := {
      le := hw.le
      own := {
        own := fun id r hr => by
          rw [lkR_cons] at hr
          split at hr
          · simp only [Option.some.injEq] at hr
            subst hr
            refine ⟨hfr, Nat.le_refl _, cs, heap_alloc_new w _, hl, fun j ev x hj hx => ?_⟩
            have hm := hlt ev (List.mem_of_getElem? hj)
            rw [val_cons hm] at hx
            exact hcs j ev x hj hx
          · have h1 := hw.own.own id r hr
            cases hb : r.blk with
            | none => rw [hb] at h1; exact h1
            | some b =>
              rw [hb] at h1
              obtain ⟨g1, g2, cur, g3, g4, g5⟩ := h1
              refine ⟨g1, g2, cur, g3, g4, fun j ev x hj hx => ?_⟩
              have hm := (h.rids id r hr).2 ev (List.mem_of_getElem? hj)
              rw [val_cons hm] at hx
              exact g5 j ev x hj hx
        apart := fun i j r s b hi hj hb hs => by
          rw [lkR_cons] at hi hj
          split at hi
          · split at hj
            · omega
            · simp only [Option.some.injEq] at hi
              subst hi
              simp only [Option.some.injEq] at hb
              have := h.wok.own.lt hj hs
              omega
          · split at hj
            · simp only [Option.some.injEq] at hj
              subst hj
              simp only [Option.some.injEq] at hs
              have := h.wok.own.lt hi hb
              omega
            · exact h.wok.own.apart i j r s b hi hj hb hs }
      pres := hw.pres
      new := fun id r b hr hb => by
        rw [lkR_cons] at hr
        split at hr
        · simp only [Option.some.injEq] at hr
          subst hr
          simp only [Option.some.injEq] at hb
          have := h.wok.pres.size
          omega
        · exact h.wok.new id r b hr hb
      fnew := h.wok.fnew }
    hist := h.hist.cons _
    rids := fun id r hr => by
      simp only [lkR_cons] at hr
      split at hr
      · simp only [Option.some.injEq] at hr
        subst hr
        exact ⟨by simp only; omega, fun e he => (hlt e he).mono (Nat.le_succ _)⟩
      · obtain ⟨h1, h2⟩ := h.rids id r hr
        exact ⟨by simp only at h1 ⊢; omega, fun e he => (h2 e he).mono (Nat.le_succ _)⟩
    ids := fun n e he => (h.ids n e he).mono (Nat.le_succ _)
    env := fun n e x hg he hx => by
      rw [val_cons (h.ids n e he)] at hx
      exact h.env n e x hg he hx
    gv := fun n ch e hg => by
      obtain ⟨h1, h2, h3, h4⟩ := h.gv n ch e hg
      refine ⟨fun hA => ⟨fun x hx => (h1 hA).1 x ?_, (h1 hA).2⟩, h2, h3.mono (Nat.le_succ _), h4⟩
      rw [val_cons h3] at hx
      exact hx }

theorem gA_nil (a : Act) : gA [] a := fun s w b hs => by simp at hs
theorem chfree_nil (g : GEnv) (env : Env) : ChFree g env [] := fun d _ _ _ s w b hs => by simp at hs

/-- Behind a new block: its address is laid down. -/
theorem newV_wp {c : Ctx} {g : GEnv} {st : St} {a : Act} {w : World} (h : GSat c N g st a w) {cells : List EV} {cs : Array Value} {t : TypeId} {d : Option Nat} {K : GEnv → St → Prop} (hl : cs.size = cells.length) (hlt : ∀ e ∈ cells, e.lt st.nx)
    (hcs : ∀ (j : Nat) (e : EV) (x : Value), cells[j]? = some e → e.val st.rs = some x → cs[j]? = some x) (hk : newV N d K g t cells st) :
    ∃ g' st', K g' st' ∧ GSat c N g' st' (a.put d (.pointer (some ⟨w.heap.size, 0, none⟩))) (w.alloc (.cells cs t)) := by
  obtain ⟨env, F, rs, nx⟩ := st
  have hs := alloc_sat h (t := t) hl hlt hcs
  have hv : (EV.loc nx 0).val ((nx, ⟨some w.heap.size, cells, t, cells.length⟩) :: rs) = some (.pointer (some ⟨w.heap.size, 0, none⟩)) := by
    simp only [EV.val, lkR_cons, if_true]
  obtain ⟨g', st', h1, _, _, _, h2, _⟩ := putV_sat hs (ch := []) (e := .loc nx 0) (v := .pointer (some ⟨w.heap.size, 0, none⟩)) (by simp only [EV.lt]; omega) (fun _ => hv) (fun _ => trivial) (chfree_nil _ _) (hk w.heap.size)
  exact ⟨g', st', h1, h2 (gA_nil a)⟩

theorem cellsOf_spec {rs : RL} {e : EV} {v : Value} (hv : e.val rs = some v) : v.cells.size = (cellsOf e).length ∧ (∀ (j : Nat) (e' : EV) (x : Value), (cellsOf e)[j]? = some e' → e'.val rs = some x → v.cells[j]? = some x) ∧
    (∀ nx, e.lt nx → ∀ e' ∈ cellsOf e, e'.lt nx) ∧ ∀ (j : Nat) (x : Value), v.cells[j]? = some x → ∃ e', (cellsOf e)[j]? = some e' ∧ e'.val rs = some x := by
  have single : ∀ (e : EV) (v : Value), e.val rs = some v → cellsOf e = [e] → v.cells = #[v] → v.cells.size = (cellsOf e).length ∧ (∀ (j : Nat) (e' : EV) (x : Value), (cellsOf e)[j]? = some e' → e'.val rs = some x → v.cells[j]? = some x) ∧
      (∀ nx, e.lt nx → ∀ e' ∈ cellsOf e, e'.lt nx) ∧ ∀ (j : Nat) (x : Value), v.cells[j]? = some x → ∃ e', (cellsOf e)[j]? = some e' ∧ e'.val rs = some x := by
    intro e v hv h1 h2
    rw [h1, h2]
    refine ⟨rfl, fun j e' x hj hx => ?_, fun nx hl e' he => by rw [List.mem_singleton.1 he]; exact hl, fun j x hj => ?_⟩
    · cases j with
      | zero =>
        simp only [List.getElem?_cons_zero, Option.some.injEq] at hj
        subst hj
        rw [hv] at hx
        simpa using hx
      | succ j => simp at hj
    · cases j with
      | zero =>
        simp only [List.getElem?_toArray, List.getElem?_cons_zero, Option.some.injEq] at hj
        subst hj
        exact ⟨e, rfl, hv⟩
      | succ j => simp at hj
  cases e with
  | v x =>
    simp only [EV.val, Option.some.injEq] at hv
    subst hv
    cases x with
    | agg cs =>
      refine ⟨by simp [Value.cells, cellsOf], fun j e' y hj hy => ?_, fun nx _ e' he => ?_, fun j y hj => ?_⟩
      · simp only [cellsOf, List.getElem?_map, Option.map_eq_some_iff] at hj
        obtain ⟨u, hu, rfl⟩ := hj
        simp only [EV.val, Option.some.injEq] at hy
        subst hy
        simpa [Value.cells] using hu
      · simp only [cellsOf, List.mem_map] at he
        obtain ⟨u, _, rfl⟩ := he
        trivial
      · refine ⟨.v y, ?_, rfl⟩
        simp only [cellsOf, List.getElem?_map]
        simp only [Value.cells] at hj
        rw [show cs.toList[j]? = some y by simpa using hj]
        rfl
    | _ => exact single _ _ rfl rfl rfl
  | loc id o =>
    have : v.cells = #[v] := by
      simp only [EV.val] at hv
      split at hv
      · split at hv
        · simp only [Option.some.injEq] at hv; subst hv; rfl
        · simp at hv
      · simp at hv
    exact single _ _ hv rfl this
  | row id o n c =>
    have : v.cells = #[v] := by
      simp only [EV.val] at hv
      split at hv
      · simp only [Option.some.injEq] at hv; subst hv; rfl
      · simp at hv
    exact single _ _ hv rfl this
theorem wp_of_run {a : Act} {w w' : World} {o : Oper} {v : Value} {K' : Act → World → Prop} {Q : Exit → Act → World → Prop} (h : (execOp a.eval o).run P w = .ok (.value v) w') (hk : K' (a.put o.dst v) w') : o.wp P a w K' Q := by
  unfold Oper.wp
  rw [h]
  exact hk

theorem box_wp {c : Ctx} {g : GEnv} {st : St} {a : Act} {w : World} (h : GSat c N g st a w) {o : Oper} {t : TypeId} {x : Operand} (ho : o.op = .box t x) {K : GEnv → St → Prop} {Q : Exit → Act → World → Prop} {K' : Act → World → Prop}
    (hK : ∀ g' st' a' w', GSat c N g' st' a' w' → K g' st' → K' a' w') (hk : boxGo N o.dst K g t st (opd st.rs g st.env [] x)) : o.wp P a w K' Q := by
  cases hx : opd st.rs g st.env [] x with
  | none => simp [hx, boxGo] at hk
  | some e =>
    rw [hx] at hk
    simp only [boxGo] at hk
    have hv := fits_opd h (gA_nil a) _ _ hx
    have hlt := opd_lt h [] _ _ hx
    obtain ⟨h1, h2, h3, _⟩ := cellsOf_spec hv
    obtain ⟨g', st', h5, h6⟩ := newV_wp h (t := t) h1 (h3 _ hlt) h2 hk
    refine wp_of_run ?_ (hK _ _ _ _ h6 h5)
    simp only [execOp, ho, Instr.box, newVar, newRow, newObj]
    rfl
theorem rowV_wp {c : Ctx} {g : GEnv} {st : St} {a : Act} {w : World} (h : GSat c N g st a w) {cells : List EV} {cs : Array Value} {t : TypeId} {n : Nat} {d : Option Nat} {K : GEnv → St → Prop} (hl : cs.size = cells.length) (hlt : ∀ e ∈ cells, e.lt st.nx)
    (hcs : ∀ (j : Nat) (e : EV) (x : Value), cells[j]? = some e → e.val st.rs = some x → cs[j]? = some x) (hk : rowV N d K g t n cells st) :
    ∃ g' st', K g' st' ∧ GSat c N g' st' (a.put d (.slice (some ⟨w.heap.size, 0, none⟩) n n)) (w.alloc (.cells cs t)) := by
  obtain ⟨env, F, rs, nx⟩ := st
  have hs := alloc_sat h (t := t) hl hlt hcs
  have hv : (EV.row nx 0 n n).val ((nx, ⟨some w.heap.size, cells, t, cells.length⟩) :: rs) = some (.slice (some ⟨w.heap.size, 0, none⟩) n n) := by
    simp only [EV.val, lkR_cons, if_true]
    rfl
  obtain ⟨g', st', h1, _, _, _, h2, _⟩ := putV_sat hs (ch := []) (e := .row nx 0 n n) (v := .slice (some ⟨w.heap.size, 0, none⟩) n n) (by simp only [EV.lt]; omega) (fun _ => hv) (fun _ => trivial) (chfree_nil _ _) (hk w.heap.size)
  exact ⟨g', st', h1, h2 (gA_nil a)⟩
theorem bslice_wp (htb : TbOK P tb) {c : Ctx} {g : GEnv} {st : St} {a : Act} {w : World} (h : GSat c N g st a w) {o : Oper} {t : TypeId} {n : Nat} {ps : Array (Nat × Operand)} (ho : o.op = .buildSlice t n ps) {K : GEnv → St → Prop} {Q : Exit → Act → World → Prop} {K' : Act → World → Prop}
    (hK : ∀ g' st' a' w', GSat c N g' st' a' w' → K g' st' → K' a' w') (hk : bsGo tb N o.dst K g st n (tk tb t) (partsOf st.rs (opd st.rs g st.env []) ps.toList)) : o.wp P a w K' Q := by
  unfold bsGo at hk
  split at hk
  · rename_i e xs ht hps
    cases hi : tb e with
    | none => simp [hi, bsElem] at hk
    | some ti =>
      rw [hi] at hk
      simp only [bsElem] at hk
      obtain ⟨hsz, hk⟩ := hk
      cases hf : fillV (fun i => some (i * ti.size, ti.size)) (zerosV (n * ti.size) ti.zero) xs with
      | none => simp [hf, bsFill] at hk
      | some cs =>
        simp only [hf, bsFill] at hk
        obtain ⟨info, j1, _, _, z, j2, j3⟩ := (htb e ti hi).info
        have hu : P.underlying t = some (.slice e) := by
          unfold tk at ht
          split at ht
          · rename_i i hti
            simp only [Option.some.injEq] at ht
            obtain ⟨d, h1, h2⟩ := (htb t i hti).kind
            rw [ht] at h2
            simp only [TK.fits] at h2
            rw [h1, h2]
          · simp at ht
        have e1 := partsOf_ok (fits_opd h (gA_nil a)) hps
        have e2 : (ps.map fun (i, x) => (i, a.eval x)) = xs.toArray := by
          apply Array.ext'
          simpa using e1
        obtain ⟨g', st', h5, h6⟩ := rowV_wp h (cs := cs.toArray) (t := e) (n := n) (by simp) (fun e he => by
            obtain ⟨u, _, rfl⟩ := List.mem_map.1 he
            trivial) (fun j e x hj hx => by
            rw [List.getElem?_map, Option.map_eq_some_iff] at hj
            obtain ⟨u, hu, rfl⟩ := hj
            simp only [EV.val, Option.some.injEq] at hx
            subst hx
            simpa using hu) hk
        refine wp_of_run ?_ (hK _ _ _ _ h6 h5)
        have hz : zerosV (n * ti.size) ti.zero = ((Array.range (n * ti.size)).map (z.cells[· % z.cells.size]!)).toList := by
          unfold zerosV
          rw [← j3]
          simp
        have e3 : fillV (fun i => some (i * ti.size, ti.size)) ((Array.range (n * ti.size)).map (z.cells[· % z.cells.size]!)).toList xs = some cs := by rw [← hz]; exact hf
        have e4 := fill_ok _ (fun i => some (i * ti.size, ti.size)) (fun i x hx => hx) xs _ cs e3
        simp only [execOp, ho, e2]
        simp only [Instr.buildSlice, run_bind, run_underlying' hu, run_sizeOf htb hi, if_neg (show ¬ n * ti.size > 2 ^ 24 by omega), run_pure]
        have e5 : ∀ w, (zeroValue e).run P w = .ok z w := fun w => by simp [zeroValue, typeInfo, j1, j2]
        by_cases h0 : n * ti.size = 0
        · have e6 : (Array.range (n * ti.size)).map ((#[] : Array Value)[· % (#[] : Array Value).size]!) = (Array.range (n * ti.size)).map (z.cells[· % z.cells.size]!) := by rw [h0]; simp
          simp only [if_pos h0, run_bind, run_pure]
          rw [e6]
          simp only [e4]
          rfl
        · simp only [if_neg h0, run_bind, e5, run_pure]
          simp only [e4]
          rfl
  · exact hk.elim
theorem alloc_wp (htb : TbOK P tb) {c : Ctx} {g : GEnv} {st : St} {a : Act} {w : World} (h : GSat c N g st a w) {o : Oper} {t : TypeId} (ho : o.op = .alloc t) {K : GEnv → St → Prop} {Q : Exit → Act → World → Prop} {K' : Act → World → Prop}
    (hK : ∀ g' st' a' w', GSat c N g' st' a' w' → K g' st' → K' a' w') (hk : allocGo N o.dst K g t st (tb t)) : o.wp P a w K' Q := by
  cases hi : tb t with
  | none => simp [hi, allocGo] at hk
  | some i =>
    rw [hi] at hk
    simp only [allocGo] at hk
    obtain ⟨info, j1, _, _, z, j2, j3⟩ := (htb t i hi).info
    have hl : z.cells.size = (i.zero.map EV.v).length := by rw [List.length_map, ← j3]; simp
    obtain ⟨g', st', h5, h6⟩ := newV_wp h (cs := z.cells) (t := t) hl (fun e he => by
        obtain ⟨u, _, rfl⟩ := List.mem_map.1 he
        trivial) (fun j e x hj hx => by
        rw [List.getElem?_map, Option.map_eq_some_iff] at hj
        obtain ⟨u, hu, rfl⟩ := hj
        simp only [EV.val, Option.some.injEq] at hx
        subst hx
        rw [← j3] at hu
        simpa using hu) hk
    refine wp_of_run ?_ (hK _ _ _ _ h6 h5)
    simp only [execOp, ho, Instr.alloc, zeroValue, typeInfo, run_bind]
    have hp : (program : Sem Program).run P w = .ok P w := rfl
    simp only [hp, j1, run_pure, j2]
    rfl

/-! ### Stores -/
theorem lkR_setR {rs : RL} {id k : Nat} {r' : Blk} : lkR (setR rs id r') k = if k = id then (lkR rs id).map fun _ => r' else lkR rs k := by
  induction rs with
  | nil => simp [setR, lkR]
  | cons p rs ih =>
    obtain ⟨m, r⟩ := p
    simp only [setR]
    by_cases hm : id = m
    · subst hm
      simp only [Nat.beq_refl]
      rw [lkR_cons, lkR_cons, lkR_cons]
      by_cases hk : k = id
      · simp [hk]
      · simp [hk]
    · rw [show Nat.beq id m = false from (by cases hb : Nat.beq id m with | false => rfl | true => exact absurd (Nat.eq_of_beq_eq_true hb) hm)]
      simp only []
      rw [lkR_cons, ih, lkR_cons, lkR_cons]
      by_cases hk : k = m
      · subst hk
        rw [if_pos rfl, if_neg (fun e => hm e.symm), if_pos rfl]
      · rw [if_neg hk, if_neg hm, if_neg hk]
theorem val_setR {rs : RL} {id : Nat} {r r' : Blk} (hr : lkR rs id = some r) (hb : r'.blk = r.blk) (e : EV) : e.val (setR rs id r') = e.val rs := by
  cases e with
  | v x => rfl
  | loc k o =>
    simp only [EV.val, lkR_setR]
    by_cases hk : k = id
    · subst hk; simp [hr, hb]
    · simp [hk]
  | row k n c =>
    simp only [EV.val, lkR_setR]
    by_cases hk : k = id
    · subst hk; simp [hr, hb]
    · simp [hk]

theorem store_sat {c : Ctx} {g : GEnv} {env : Env} {F : Hp} {rs : RL} {nx : Nat} {a : Act} {w : World} (h : GSat c N g ⟨env, F, rs, nx⟩ a w) {id b off : Nat} {r : Blk} (hr : lkR rs id = some r) (hb : r.blk = some b) {es : List EV} {vs : List Value} (hlen : vs.length = es.length) (hfit : off + es.length ≤ r.cells.length)
    (hlt : ∀ e ∈ es, e.lt nx) (hes : ∀ (j : Nat) (e : EV) (x : Value), es[j]? = some e → e.val rs = some x → vs[j]? = some x) {cur : Array Value} (hcur : w.heap[b]? = some (.cells cur r.ty (0, 0))) :
    GSat c N g ⟨env, F, setR rs id ⟨r.blk, r.cells.take off ++ es ++ r.cells.drop (off + es.length), r.ty, r.cap⟩, nx⟩ a (w.setRow b (cur.toList.take off ++ vs ++ cur.toList.drop (off + vs.length)).toArray) := by
  have hval := fun e => val_setR (r' := ⟨r.blk, r.cells.take off ++ es ++ r.cells.drop (off + es.length), r.ty, r.cap⟩) hr rfl e
  have hown := h.wok.own.own id r hr
  rw [hb] at hown
  obtain ⟨o1, o2, cur', o3, o4, o5⟩ := hown
  rw [hcur] at o3
  simp only [Option.some.injEq, Obj.cells.injEq] at o3
  obtain ⟨rfl, _, _⟩ := o3
  have hsz : (w.setRow b (cur.toList.take off ++ vs ++ cur.toList.drop (off + vs.length)).toArray).heap.size = w.heap.size := by simp [World.setRow]
  have hoth : ∀ k, k ≠ b → (w.setRow b (cur.toList.take off ++ vs ++ cur.toList.drop (off + vs.length)).toArray).heap[k]? = w.heap[k]? := fun k hk => setRow_other w b k _ hk
  have hp : Pres [b] w (w.setRow b (cur.toList.take off ++ vs ++ cur.toList.drop (off + vs.length)).toArray) := ⟨rfl, rfl, rfl, by rw [hsz]; exact Nat.le_refl _, fun k _ hk => hoth k (by simpa using hk)⟩
  exact {
    size := h.size
    defers := h.defers
    wok := {
      le := fun k o e => by
        have hkb : k ≠ b := by rintro rfl; rw [o1] at e; cases e
        rw [hoth k hkb]
        exact h.wok.le k o e
      own := {
        own := fun k s hs => by
          rw [lkR_setR] at hs
          split at hs
          · rw [hr] at hs
            simp only [Option.map_some, Option.some.injEq] at hs
            subst hs
            split
            · rename_i hn
              exact absurd (hb.symm.trans hn) (by simp)
            rename_i b0 hb0
            obtain rfl : b = b0 := by
              have := hb.symm.trans hb0
              simpa using this
            refine ⟨o1, by simp only [List.length_append, List.length_take, List.length_drop]; omega, _, setRow_heap w b cur _ _ _ hcur, ?_, fun j ev x hj hx => ?_⟩
            · simp only [List.size_toArray, List.length_append, List.length_take, List.length_drop, Array.length_toList]
              omega
            · have hx' : ev.val rs = some x := by rw [← hval ev]; exact hx
              simp only [List.getElem?_toArray]
              rw [List.append_assoc, List.getElem?_append] at hj ⊢
              simp only [List.length_take, Array.length_toList] at hj ⊢
              have e1 : min off r.cells.length = off := by omega
              have e2 : min off cur.size = off := by omega
              rw [e1] at hj
              rw [e2]
              split
              · rename_i hlo
                rw [if_pos hlo, List.getElem?_take, if_pos hlo] at hj
                rw [List.getElem?_take, if_pos hlo]
                simpa using o5 j ev x hj hx'
              · rename_i hlo
                rw [if_neg hlo] at hj
                rw [List.getElem?_append] at hj ⊢
                rw [hlen]
                split
                · rename_i hmid
                  rw [if_pos hmid] at hj
                  exact hes _ ev x hj hx'
                · rename_i hmid
                  rw [if_neg hmid, List.getElem?_drop] at hj
                  rw [List.getElem?_drop]
                  have e3 : off + es.length + (j - off - es.length) = j := by omega
                  rw [e3] at hj ⊢
                  simpa using o5 j ev x hj hx'
          · rename_i hk
            have h1 := h.wok.own.own k s hs
            cases hsb : s.blk with
            | none => rw [hsb] at h1; exact h1
            | some b' =>
              rw [hsb] at h1
              obtain ⟨g1, g2, cur', g3, g4, g5⟩ := h1
              have hbb : b' ≠ b := by
                rintro rfl
                exact hk (h.wok.own.apart k id s r _ hs hr hsb hb)
              refine ⟨g1, g2, cur', by rw [hoth _ hbb]; exact g3, g4, fun j ev x hj hx => g5 j ev x hj ?_⟩
              rw [← hval ev]; exact hx
        apart := fun i j s t b' hi hj hs ht => by
          rw [lkR_setR] at hi hj
          have conv : ∀ {k : Nat} {s : Blk}, (if k = id then (lkR rs id).map fun _ => (⟨r.blk, r.cells.take off ++ es ++ r.cells.drop (off + es.length), r.ty, r.cap⟩ : Blk) else lkR rs k) = some s → s.blk = some b' → ∃ s', lkR rs k = some s' ∧ s'.blk = some b' := by
            intro k s hk hsb
            split at hk
            · rename_i hkid
              rw [hr] at hk
              simp only [Option.map_some, Option.some.injEq] at hk
              subst hk
              subst hkid
              exact ⟨r, hr, hsb⟩
            · exact ⟨s, hk, hsb⟩
          obtain ⟨s', hs1, hs2⟩ := conv hi hs
          obtain ⟨t', ht1, ht2⟩ := conv hj ht
          exact h.wok.own.apart i j s' t' b' hs1 ht1 hs2 ht2 }
      pres := h.wok.pres.trans' hp (fun y hy => by
        simp only [List.mem_singleton] at hy
        subst hy
        exact .inr (h.wok.new id r _ hr hb))
      new := fun k s b' hs hsb => by
        rw [lkR_setR] at hs
        split at hs
        · rw [hr] at hs
          simp only [Option.map_some, Option.some.injEq] at hs
          subst hs
          exact h.wok.new id r b' hr hsb
        · exact h.wok.new k s b' hs hsb
      fnew := h.wok.fnew }
    hist := {
      sub := h.hist.sub
      nxle := h.hist.nxle
      succ := fun k s hk hs => by
        rw [lkR_setR] at hs
        split at hs
        · rename_i hkid
          subst hkid
          rw [hr] at hs
          simp only [Option.map_some, Option.some.injEq] at hs
          subst hs
          exact h.hist.succ k r hk hr
        · exact h.hist.succ k s hk hs }
    rids := fun k s hs => by
      simp only [lkR_setR] at hs
      split at hs
      · rename_i hkid
        rw [hr] at hs
        simp only [Option.map_some, Option.some.injEq] at hs
        subst hs
        subst hkid
        obtain ⟨h1, h2⟩ := h.rids k r hr
        refine ⟨h1, fun e he => ?_⟩
        simp only [List.mem_append] at he
        rcases he with (he | he) | he
        · exact h2 e (List.mem_of_mem_take he)
        · exact hlt e he
        · exact h2 e (List.mem_of_mem_drop he)
      · exact h.rids k s hs
    ids := h.ids
    env := fun n e x hg he hx => by
      simp only [hval] at hx
      exact h.env n e x hg he hx
    gv := fun n ch e hg => by
      obtain ⟨h1, h2, h3, h4⟩ := h.gv n ch e hg
      refine ⟨fun hA => ⟨fun x hx => (h1 hA).1 x ?_, (h1 hA).2⟩, h2, h3, h4⟩
      simp only [hval] at hx
      exact hx }

theorem one_spec {rs : RL} {e : EV} {x : Value} (h : one e = true) (hx : e.val rs = some x) : x.oneCell' = true := by
  cases e with
  | v y =>
    simp only [EV.val, Option.some.injEq] at hx
    subst hx
    cases y <;> first | rfl | simp [one] at h
  | loc id o =>
    simp only [EV.val] at hx
    split at hx
    · split at hx
      · simp only [Option.some.injEq] at hx; subst hx; rfl
      · simp at hx
    · simp at hx
  | row id o n c =>
    simp only [EV.val] at hx
    split at hx
    · simp only [Option.some.injEq] at hx; subst hx; rfl
    · simp at hx
theorem store_wp (htb : TbOK P tb) {c : Ctx} {g : GEnv} {st : St} {a : Act} {w : World} (h : GSat c N g st a w) {o : Oper} {t : TypeId} {x y : Operand} (ho : o.op = .store t x y) {K : GEnv → St → Prop} {Q : Exit → Act → World → Prop} {K' : Act → World → Prop} (hd : o.dst = none)
    (hK : ∀ g' st' a' w', GSat c N g' st' a' w' → K g' st' → K' a' w') (hk : storeGo K g st (tb t) (opd st.rs g st.env [] x) (opd st.rs g st.env [] y)) : o.wp P a w K' Q := by
  unfold storeGo at hk
  split at hk
  · rename_i i id off e hi hx hy
    obtain ⟨env, F, rs, nx⟩ := st
    cases hr : lkR rs id with
    | none => simp [hr, storeIn] at hk
    | some r =>
      simp only [hr, storeIn] at hk
      obtain ⟨hl, hone, hfit, hk⟩ := hk
      have e1 := fits_opd h (gA_nil a) _ _ hx
      have e2 := fits_opd h (gA_nil a) _ _ hy
      have hlt := opd_lt h [] _ _ hy
      simp only [EV.val, hr] at e1
      split at e1
      · rename_i b hb
        simp only [Option.some.injEq] at e1
        obtain ⟨c1, c2, c3, c4⟩ := cellsOf_spec e2
        have hown := h.wok.own.own id r hr
        rw [hb] at hown
        obtain ⟨o1, o2, cur, o3, o4, o5⟩ := hown
        have hs := store_sat h hr hb (es := cellsOf e) (vs := (a.eval y).cells.toList) (off := off) (by simpa using c1) (by rw [hl]; exact hfit) (c3 _ hlt) (fun j e' u hj hu => by simpa using c2 j e' u hj hu) o3
        have hone' : ∀ u ∈ (a.eval y).cells.toList, u.oneCell' = true := fun u hu => by
          obtain ⟨j, hj⟩ := List.getElem?_of_mem hu
          obtain ⟨e', he', hv'⟩ := c4 j u (by simpa using hj)
          exact one_spec (List.all_eq_true.1 hone e' (List.mem_of_getElem? he')) hv'
        have hrun := run_storeCells_at (P := P) b off r.ty (a.eval y).cells.toList 0 cur w o3 (by simp only [Nat.add_zero, Array.length_toList, c1, hl]; omega) hone'
        simp only [Nat.add_zero] at hrun
        have hput : a.put o.dst undef = a := by rw [hd]; rfl
        unfold Oper.wp
        have hex : (execOp a.eval o).run P w = .ok .skip (w.setRow b (cur.toList.take off ++ (a.eval y).cells.toList ++ cur.toList.drop (off + (a.eval y).cells.toList.length)).toArray) := by
          simp only [execOp, ho, Instr.storeAt, ← e1, Instr.sureAddr, run_bind, run_pure, storeVar, run_sizeOf htb hi]
          rw [if_neg (by rw [c1, hl]; simp)]
          simp only [hrun]
        rw [hex]
        show K' (a.put o.dst undef) _
        rw [hput]
        refine hK _ _ _ _ hs ?_
        rw [hl]
        exact hk
      · simp at e1
  · exact hk.elim
end Go.TR
