/-
A small program logic of our own for the model. Part k: code, functions, view shifts; the steps for calls, loops and ends. Nothing here speaks of one program.
-/
import Derived.Test.YtaienbnadbadfaaFwm
import Derived.Test.YtaienbnadbadfaaFwc
import Derived.Deep.LoopGhost
namespace Go.TR
variable {P : Program} {tb : Tb} {N : Nat}

def lift (c : Ctx) (N : Nat) (K : Exit → St → Prop) (e : Exit) (a : Act) (w : World) : Prop := ∃ st, Sat c N st a w ∧ K e st

theorem vc_sound (htb : TbOK P tb) (hm : P.follows .mixedOrders = true) (c : Ctx) : ∀ (code : Code) (K : Exit → St → Prop) (st : St) (a : Act) (w : World), Sat c N st a w → vc P tb N code K st → code.wp P (lift c N K) a w
  | .skip, K, st, a, w, h, hk => wp_skip ⟨st, h, hk⟩
  | .ret, K, st, a, w, h, hk => wp_ret ⟨st, h, hk⟩
  | .exit id, K, st, a, w, h, hk => wp_exit ⟨st, h, hk⟩
  | .seq x y, K, st, a, w, h, hk => by
    refine wp_seq (wp_mono (vc_sound htb hm c x _ st a w h hk) ?_)
    rintro e a' w' ⟨st', h', hk'⟩
    cases e with
    | normal => exact vc_sound htb hm c y K st' a' w' h' hk'
    | _ => exact ⟨st', h', hk'⟩
  | .block id x, K, st, a, w, h, hk => by
    refine wp_block (wp_mono (vc_sound htb hm c x _ st a w h hk) ?_)
    rintro e a' w' ⟨st', h', hk'⟩
    cases e with
    | exit j =>
      simp only [Exit.inBlock]
      simp only [blockK] at hk'
      by_cases hj : j = id
      · subst hj
        simp only [beq_self_eq_true, exitK] at hk'
        simp only [if_true]
        exact ⟨st', h', hk'⟩
      · rw [show (j == id) = false by simpa using hj] at hk'
        simp only [exitK] at hk'
        rw [if_neg hj]
        exact ⟨st', h', hk'⟩
    | _ => exact ⟨st', h', hk'⟩
  | .cond o x y, K, st, a, w, h, hk => by
    simp only [vc] at hk
    cases ho : opd st.rs [] st.env [] o with
    | none => simp [ho, condV] at hk
    | some e =>
      have e1 := fits_opd h (gA_nil a) _ _ ho
      cases e with
      | v u =>
        cases u with
        | bool b =>
          simp only [EV.val, Option.some.injEq] at e1
          cases b with
          | true =>
            rw [ho] at hk
            exact wp_cond_true e1.symm (vc_sound htb hm c x K st a w h hk)
          | false =>
            rw [ho] at hk
            exact wp_cond_false e1.symm (vc_sound htb hm c y K st a w h hk)
        | _ => simp [ho, condV] at hk
      | _ => simp [ho, condV] at hk
  | .loop x, K, st, a, w, h, hk => by
    obtain ⟨ι, T, μ, h0, hr⟩ := hk
    obtain ⟨st0, hs0, i, rfl⟩ := h0 c a w h
    refine wp_loop_ghost (fun n a w => ∃ i, μ i = n ∧ Sat c N (T i) a w) (μ i) ⟨i, rfl, hs0⟩ ?_
    rintro n a w ⟨i, rfl, hs⟩
    refine wp_mono (vc_sound htb hm c x _ (T i) a w hs (hr i)) ?_
    rintro e a' w' ⟨st', h', hk'⟩
    cases e with
    | normal =>
      obtain ⟨st2, h2, j, rfl, hlt⟩ := hk' c a' w' (Nat.le_min.2 ⟨h.hist.nxle, hs.hist.nxle⟩) h'
      exact ⟨μ j, hlt, j, rfl, h2⟩
    | ret =>
      obtain ⟨st2, h2, h3⟩ := hk' c a' w' h'
      exact ⟨st2, h2, h3⟩
    | exit j =>
      obtain ⟨st2, h2, h3⟩ := hk' c a' w' h'
      exact ⟨st2, h2, h3⟩
    | _ => exact ⟨st', h', hk'⟩
  | .region id ops dr, K, st, a, w, h, hk => by
    obtain ⟨st, h, hk⟩ := hk c a w h
    have mono : ∀ {ops : Array Oper} (l : List Oper) (a : Act) {Q Q' : Act → Prop}, (∀ a, Q a → Q' a) → wpQuiet P ops (C c st) Q l a → wpQuiet P ops (C c st) Q' l a := by
      intro ops l
      induction l with
      | nil => intro a Q Q' hq h; exact hq _ h
      | cons o l ih =>
        intro a Q Q' hq h
        unfold wpQuiet at h ⊢
        split
        · rename_i hw
          rw [if_pos hw] at h
          exact Oper.quiet_mono (fun a' h' => ih a' hq h') h
        · rename_i hw
          rw [if_neg hw] at h
          exact ih _ hq h
    have hdrew : C c st { w with drawn := w.drawn + 1 } := WOK.pres' h.wok (Pres.drewN [] w 1)
    have fin : ∀ g st a w, GSat c N g st a w → dropG (K .normal) g st → lift c N K .normal a w := fun g st a w hs hk => ⟨st, hs.drop, hk⟩
    rcases hk with ⟨h1, h2⟩ | ⟨n, hB, h2⟩ | ⟨rfl, hsel, kept, hk⟩
    · cases dr with
      | false => exact wp_region_list (ops_plain htb fin _ _ _ _ _ h h2)
      | true =>
        have h3 := ops_quiet htb ops.toList [] st a w h h2
        refine wp_region_quiet (C := C c st) hm (h1 rfl) hdrew ?_
        exact mono _ _ (fun a' ⟨g', st', hk', hs'⟩ w' hw' => fin _ _ _ _ (hs' w' hw') hk') h3
    · obtain ⟨l⟩ := ops
      have h3 := ops_quiet htb (ops := l.toArray) (l.take n) [] st a w h h2
      cases dr with
      | false =>
        refine wp_region_list ?_
        -- a region in the text's order: its head is quiet, then its tail
        have key : ∀ (l1 l2 : List Oper) (a : Act) (w : World) {G : Act → Prop}, C c st w → wpQuiet P l.toArray (C c st) G l1 a →
            (∀ a' w', C c st w' → G a' → wpList P l.toArray (lift c N K) l2 a' w') → wpList P l.toArray (lift c N K) (l1 ++ l2) a w := by
          intro l1
          induction l1 with
          | nil => intro l2 a w G hw h1 h2; exact h2 a w hw h1
          | cons o l1 ih =>
            intro l2 a w G hw h1 h2
            rw [List.cons_append]
            unfold wpQuiet at h1
            unfold wpList
            split
            · rename_i hwt
              rw [if_pos hwt] at h1
              exact .inl (Oper.wp_of_quiet hw (fun a' w' hw' h' => ih l2 a' w' hw' h' h2) h1)
            · rename_i hwt
              rw [if_neg hwt] at h1
              exact ih l2 _ w hw h1 h2
        have := key (l.take n) (l.drop n) a w h.wok h3 (fun a' w' hw' ⟨g', st', h4, h5⟩ => ops_plain htb (ops := l.toArray) fin _ _ _ _ _ (h5 w' hw').drop h4)
        rwa [List.take_append_drop] at this
      | true =>
        refine wp_region_head (C := C c st) n hm hB hdrew ?_
        exact mono _ _ (fun a' ⟨g', st', h4, h5⟩ w' hw' => ops_plain htb (ops := l.toArray) fin _ _ _ _ _ (h5 w' hw').drop h4) h3
    · refine wp_region_any hm ?_
      have := any_sound htb (c := c) (K := K .normal) hsel (ops.size + 1) ops.size (Array.replicate ops.size false) [] st a _ (h.world hdrew) hk
      exact wpAnyT.any (fun a w ⟨st', h1, h2⟩ => ⟨st', h1, h2⟩) _ _ _ _ _ this
  | .rangeFunc _ _ _ _, _, _, _, _, _, hk => hk.elim
  | .scope _, _, _, _, _, _, hk => hk.elim
  | .label _, _, _, _, _, _, hk => hk.elim
  | .goto _, _, _, _, _, _, hk => hk.elim
  | .refuse _, _, _, _, _, _, hk => hk.elim

/-! ### Functions -/
def resOne (tmps : Array Value) : ResultVar → Sem Value
  | .tmp t => Pure.pure (tmps.getD t undef)
  | .cell ad t => do loadVar t (← asAddr (tmps.getD ad undef))
theorem run_results (htb : TbOK P tb) {c : Ctx} {st : St} {a : Act} {w : World} (h : Sat c N st a w) : ∀ (l : List ResultVar) (xs : List Value), resV tb st l = some xs →
    (l.mapM (m := Sem) (resOne a.tmps)).run P w = .ok xs w
  | [], xs, hx => by simp only [resV, Option.some.injEq] at hx; subst hx; rfl
  | .tmp t :: l, xs, hx => by
    simp only [resV] at hx
    split at hx
    · rename_i e he
      split at hx
      · rename_i x ys hv hy
        simp only [Option.some.injEq] at hx
        subst hx
        have ih := run_results htb h l ys hy
        have := h.env t e x rfl he hv
        rw [List.mapM_cons]
        simp only [resOne, run_bind, run_pure, this, ih]
      · simp at hx
    · simp at hx
  | .cell ad t :: l, xs, hx => by
    simp only [resV] at hx
    split at hx
    · rename_i id off i he0 hi
      obtain ⟨he, hal⟩ : lk st.env ad = some (.loc id off) ∧ ∃ x, (EV.loc id off).val st.rs = some x := by
        cases hl : lk st.env ad with
        | none => rw [hl] at he0; simp [aliveO] at he0
        | some e0 =>
          rw [hl] at he0
          obtain ⟨h1, h2⟩ := alive_val he0
          exact ⟨by rw [h1], by rw [h1]; exact h2⟩
      split at hx
      · rename_i r ys hr hy
        have hbn : ∃ b, r.blk = some b := by
          obtain ⟨x, hx⟩ := hal
          simp only [EV.val, hr] at hx
          split at hx
          · rename_i b hb; exact ⟨b, hb⟩
          · simp at hx
        have ih := run_results htb h l ys hy
        have key : ∀ b v, r.blk = some b → (loadVar t ⟨b, off, none⟩).run P w = .ok v w → ((ResultVar.cell ad t :: l).mapM (m := Sem) (resOne a.tmps)).run P w = .ok (v :: ys) w := fun b v hb hl => by
          have hv : (EV.loc id off).val st.rs = some (.pointer (some ⟨b, off, none⟩)) := by simp only [EV.val, hr, hb]
          have := h.env ad _ _ rfl he hv
          rw [List.mapM_cons]
          simp only [resOne, run_bind, this, asAddr, run_pure, hl, ih]
        have la : ∀ {b : Nat} {v : Value}, (Instr.loadAt t (.pointer (some ⟨b, off, none⟩))).run P w = .ok v w → (loadVar t ⟨b, off, none⟩).run P w = .ok v w := fun {b v} hl => by
          simpa only [Instr.loadAt, Instr.sureAddr, run_bind, run_pure] using hl
        split at hx
        · rename_i ha
          split at hx
          · rename_i cs hcs
            split at hx
            · rename_i hle
              simp only [Option.some.injEq] at hx
              subst hx
              obtain ⟨hl, hcells⟩ := allV_spec hcs
              obtain ⟨b, hb⟩ := hbn
              refine key b _ hb (la ?_)
              refine run_loadAt_agg htb hi ha (by rw [hl]; simp; omega) fun j v hj => ?_
              obtain ⟨e', he', hv⟩ := hcells j v hj
              rw [addr_add]
              refine h.wok.own.cell hr hb ?_ hv
              rw [List.getElem?_drop, List.getElem?_take] at he'
              split at he'
              · exact he'
              · simp at he'
            · simp at hx
          · simp at hx
        · rename_i ha
          have ha' : i.kind.agg = false := by simpa using ha
          split at hx
          · rename_i e' he'
            split at hx
            · rename_i x hv
              simp only [Option.some.injEq] at hx
              subst hx
              obtain ⟨b, hb⟩ := hbn
              exact key b _ hb (la (run_loadAt_cell htb hi ha' (h.wok.own.cell hr hb he' hv)))
            · simp at hx
          · simp at hx
      · simp at hx
    · simp at hx

theorem results_ok (htb : TbOK P tb) {c : Ctx} {st : St} {a : Act} {w : World} (h : Sat c N st a w) {fn : Func} {xs : List Value} (hx : resV tb st fn.results.toList = some xs) : (results fn a.tmps).run P w = .ok (tupV xs) w := by
  have h1 := run_results htb h _ _ hx
  have h2 : (fn.results.mapM (m := Sem) (resOne a.tmps)).run P w = .ok xs.toArray w := by
    rw [Array.mapM_eq_mapM_toList, ← bind_pure_comp, run_bind, h1]
    rfl
  have e : results fn a.tmps = (do let vs ← fn.results.mapM (m := Sem) (resOne a.tmps); Pure.pure (if h : vs.size = 1 then vs[0] else .tuple vs)) := by
    unfold results
    congr 1
  rw [e, run_bind, h2]
  show Result.ok _ w = _
  congr 1
  match xs with
  | [] => rfl
  | [x] => rfl
  | x :: y :: t => rfl

def paramEnv : Nat → List Value → Env
  | _, [] => []
  | k, x :: xs => (k, .v x) :: paramEnv (k + 1) xs
theorem lk_paramEnv : ∀ (xs : List Value) (k n : Nat) (e : EV), lk (paramEnv k xs) n = some e → k ≤ n ∧ ∃ x, xs[n - k]? = some x ∧ e = .v x
  | [], k, n, e, h => by simp [paramEnv, lk] at h
  | x :: xs, k, n, e, h => by
    simp only [paramEnv, lk_cons] at h
    split at h
    · rename_i hn
      subst hn
      simp only [Option.some.injEq] at h
      exact ⟨Nat.le_refl _, x, by simp, h.symm⟩
    · rename_i hn
      obtain ⟨h1, y, h2, h3⟩ := lk_paramEnv xs (k + 1) n e h
      refine ⟨by omega, y, ?_, h3⟩
      have : n - k = (n - (k + 1)) + 1 := by omega
      rw [this, List.getElem?_cons_succ]
      exact h2
theorem start_sat {args : List Value} {N : Nat} (hN : args.length ≤ N) {F : Hp} {w : World} (hF : F.le w) :
    Sat ⟨w, F, F, [], 0⟩ N ⟨paramEnv 0 args, F, [], 0⟩ { tmps := args.toArray ++ Array.replicate (N - args.toArray.size) undef, defers := [] } w where
  size := by simp; omega
  defers := rfl
  wok := {
    le := hF
    own := { own := fun id r h => by simp [lkR] at h, apart := fun i j r s b h => by simp [lkR] at h }
    pres := Pres.refl _ _
    new := fun id r b h => by simp [lkR] at h
    fnew := fun k h => .inl h }
  hist := ⟨Hp.sub.refl F, Nat.le_refl _, fun id r _ h => by simp [lkR] at h⟩
  rids := fun id r h => by simp [lkR] at h
  ids := fun n e h => by
    obtain ⟨_, x, _, rfl⟩ := lk_paramEnv _ _ _ _ h
    trivial
  env := fun n e x _ h hx => by
    obtain ⟨_, y, h2, rfl⟩ := lk_paramEnv _ _ _ _ h
    simp only [EV.val, Option.some.injEq] at hx
    subst hx
    simp only [Nat.sub_zero] at h2
    rw [Array.getD_eq_getD_getElem?, Array.getElem?_append_left (by have := (List.getElem?_eq_some_iff.1 h2).1; simpa using this)]
    simp [h2]
  gv := fun n ch e h => by simp [lkG] at h

theorem plain_of_vc (htb : TbOK P tb) (hm : P.follows .mixedOrders = true) {f : FuncId} {fn : Func} {code : Code} (hf : P.funcs[f]? = some fn) (hb : fn.body = some code) {args : List Value} (hN : Nat.ble args.length fn.ntmps = true) {F : Hp} {x : Value}
    (h : vc P tb fn.ntmps code (retK tb fn.results.toList (fun v => v = x)) ⟨paramEnv 0 args, F, [], 0⟩) : Plain P F f args x := by
  intro w hF
  have hN' : args.length ≤ fn.ntmps := by simpa using hN
  refine calls_of_wp hf hb ?_
  refine wp_mono (vc_sound htb hm ⟨w, F, F, [], 0⟩ code _ _ _ w (start_sat hN' hF) h) ?_
  rintro e a' w' ⟨st, hs, hk⟩
  have key : retGo (fun v => v = x) (resV tb st fn.results.toList) → a'.defers = [] ∧ ∃ v, (results fn a'.tmps).run P w' = .ok v w' ∧ (Ending.returned v = .returned x ∧ Pres [] w w') := fun hk => by
    cases hr : resV tb st fn.results.toList with
    | none => simp [hr, retGo] at hk
    | some xs =>
      rw [hr] at hk
      simp only [retGo] at hk
      exact ⟨hs.defers, _, results_ok htb hs hr, by rw [hk], hs.wok.pres⟩
  cases e with
  | normal => exact key hk
  | ret => exact key hk
  | _ => exact hk.elim
theorem call_of_vc (htb : TbOK P tb) (hm : P.follows .mixedOrders = true) {f : FuncId} {fn : Func} {code : Code} (hf : P.funcs[f]? = some fn) (hb : fn.body = some code) {args : List Value} (hN : Nat.ble args.length fn.ntmps = true) {F : Hp} {Q : Value → Hp → RL → Prop}
    (h : vc P tb fn.ntmps code (retG fn.ntmps tb fn.results.toList Q) ⟨paramEnv 0 args, F, [], 0⟩) : CallOK P F f args Q := by
  intro w hF
  have hN' : args.length ≤ fn.ntmps := by simpa using hN
  refine calls_of_wp hf hb ?_
  refine wp_mono (vc_sound htb hm ⟨w, F, F, [], 0⟩ code _ _ _ w (start_sat hN' hF) h) ?_
  rintro e a' w' ⟨st, hs, hk⟩
  have key : (VSf 0 fn.ntmps [] st fun st' => ∃ xs, resV tb st' fn.results.toList = some xs ∧ Q (tupV xs) st'.F st'.rs) → a'.defers = [] ∧ ∃ v, (results fn a'.tmps).run P w' = .ok v w' ∧ ∃ x F' new, Ending.returned v = .returned x ∧ F.sub F' ∧ F'.le w' ∧ Pres [] w w' ∧ FNew F F' w.heap.size ∧
      Owned F' new w' ∧ (∀ id r b, lkR new id = some r → r.blk = some b → w.heap.size ≤ b) ∧ Q x F' new := fun hk => by
    obtain ⟨st', hs', xs, hr, hq⟩ := hk _ a' w' (Nat.le_refl 0) hs
    refine ⟨hs'.defers, _, results_ok htb hs' hr, _, st'.F, st'.rs, rfl, hs'.hist.sub, hs'.wok.le, hs'.wok.pres, hs'.wok.fnew, hs'.wok.own, fun id r b h1 h2 => hs'.wok.new id r b h1 h2, hq⟩
  cases e with
  | normal => exact key hk
  | ret => exact key hk
  | _ => exact hk.elim
/-! ### A callee that works on the caller's memory -/
def paramE : Nat → List EV → Env
  | _, [] => []
  | k, x :: xs => (k, x) :: paramE (k + 1) xs
theorem lk_paramE : ∀ (xs : List EV) (k n : Nat) (e : EV), lk (paramE k xs) n = some e → k ≤ n ∧ xs[n - k]? = some e
  | [], k, n, e, h => by simp [paramE, lk] at h
  | x :: xs, k, n, e, h => by
    simp only [paramE, lk_cons] at h
    split at h
    · rename_i hn
      subst hn
      simp only [Option.some.injEq] at h
      exact ⟨Nat.le_refl _, by simp [h]⟩
    · rename_i hn
      obtain ⟨h1, h2⟩ := lk_paramE xs (k + 1) n e h
      refine ⟨by omega, ?_⟩
      have : n - k = (n - (k + 1)) + 1 := by omega
      rw [this, List.getElem?_cons_succ]
      exact h2
theorem allV_get {rs : RL} : ∀ {l : List EV} {xs : List Value}, allV rs l = some xs → ∀ (j : Nat) (e : EV), l[j]? = some e → ∃ x, xs[j]? = some x ∧ e.val rs = some x
  | [], _, _, j, e, h => by simp at h
  | e0 :: l, xs, h, j, e, hj => by
    simp only [allV] at h
    split at h
    · rename_i x ys hx hy
      simp only [Option.some.injEq] at h
      subst h
      cases j with
      | zero => simp only [List.getElem?_cons_zero, Option.some.injEq] at hj; subst hj; exact ⟨x, rfl, hx⟩
      | succ j => exact allV_get hy j e (by simpa using hj)
    · simp at h
theorem allV_length {rs : RL} : ∀ {l : List EV} {xs : List Value}, allV rs l = some xs → xs.length = l.length
  | [], xs, h => by simp only [allV, Option.some.injEq] at h; subst h; rfl
  | e0 :: l, xs, h => by
    simp only [allV] at h
    split at h
    · rename_i x ys hx hy
      simp only [Option.some.injEq] at h
      subst h
      simp [allV_length hy]
    · simp at h
theorem resE_ok (htb : TbOK P tb) {c : Ctx} {st : St} {a : Act} {w : World} (h : Sat c N st a w) {fn : Func} {e : EV} (hx : resE tb st fn.results.toList = some e) : ∃ x, (results fn a.tmps).run P w = .ok x w ∧ e.val st.rs = some x ∧ e.lt st.nx := by
  unfold resE at hx
  split at hx
  · rename_i t ht
    unfold aliveO at hx
    split at hx
    · rename_i e0 he
      obtain ⟨rfl, x, hv⟩ := alive_val hx
      refine ⟨x, ?_, hv, h.ids t _ he⟩
      have : resV tb st fn.results.toList = some [x] := by rw [ht]; simp only [resV, he, hv]
      exact results_ok htb h this
    · simp at hx
  · rename_i l _ 
    split at hx
    · rename_i xs hr
      simp only [Option.some.injEq] at hx
      subst hx
      exact ⟨tupV xs, results_ok htb h hr, rfl, trivial⟩
    · simp at hx
theorem callin_of_vc (htb : TbOK P tb) (hm : P.follows .mixedOrders = true) {f : FuncId} {fn : Func} {code : Code} (hf : P.funcs[f]? = some fn) (hb : fn.body = some code) {args : List EV} (hN : Nat.ble args.length fn.ntmps = true) {F : Hp} {rs : RL} {nx : Nat} {Q : EV → Hp → RL → Nat → Prop}
    (h : vc P tb fn.ntmps code (retI fn.ntmps tb fn.results.toList Q) ⟨paramE 0 args, F, rs, nx⟩) : CallIn P F rs nx f args Q := by
  intro c w hw hh hr h1 h2 h3 xs hxs
  have hN' : args.length ≤ fn.ntmps := by simpa using hN
  have hl := allV_length hxs
  refine calls_of_wp hf hb ?_
  have hs0 : Sat c fn.ntmps ⟨paramE 0 args, F, rs, nx⟩ { tmps := xs.toArray ++ Array.replicate (fn.ntmps - xs.toArray.size) undef, defers := [] } w := {
    size := by simp; omega
    defers := rfl
    wok := hw
    hist := hh
    rids := hr
    ids := fun n e he => by
      obtain ⟨_, h5⟩ := lk_paramE _ _ _ _ he
      obtain ⟨x, _, h7⟩ := allV_get hxs _ _ h5
      exact lt_of_val (fun id r hr' => (hr id r hr').1) h7
    env := fun n e x _ he hx => by
      obtain ⟨_, h5⟩ := lk_paramE _ _ _ _ he
      obtain ⟨y, h6, h7⟩ := allV_get hxs _ _ h5
      simp only [Nat.sub_zero] at h6
      simp only at hx
      rw [h7] at hx
      simp only [Option.some.injEq] at hx
      subst hx
      rw [Array.getD_eq_getD_getElem?, Array.getElem?_append_left (by have := (List.getElem?_eq_some_iff.1 h6).1; simpa using this)]
      simp [h6]
    gv := fun n ch e he => by simp [lkG] at he }
  refine wp_mono (vc_sound htb hm c code _ _ _ w hs0 h) ?_
  rintro e a' w' ⟨st, hs, hk⟩
  have key : (VS fn.ntmps [] st fun st' => ∃ e, resE tb st' fn.results.toList = some e ∧ Q e st'.F st'.rs st'.nx) → a'.defers = [] ∧ ∃ v, (results fn a'.tmps).run P w' = .ok v w' ∧ ∃ x ev F' rs' nx', Ending.returned v = .returned x ∧ WOK c F' rs' w' ∧ Hist c F' rs' nx' ∧ (∀ id r, lkR rs' id = some r → id < nx' ∧ ∀ e ∈ r.cells, e.lt nx') ∧ ev.lt nx' ∧ ev.val rs' = some x ∧ Q ev F' rs' nx' := fun hk => by
    obtain ⟨st', hs', ev, hr, hq⟩ := hk _ a' w' hs
    obtain ⟨x, g1, g2, g3⟩ := resE_ok htb hs' hr
    exact ⟨hs'.defers, x, g1, x, ev, st'.F, st'.rs, st'.nx, rfl, hs'.wok, hs'.hist, hs'.rids, g3, g2, hq⟩
  cases e with
  | normal => exact key hk
  | ret => exact key hk
  | _ => exact hk.elim
end Go.TR
