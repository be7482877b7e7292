/-
A small program logic of our own for the model. Part v: a function that hands back memory, with a hole in it; what is left to do behind a range over a function, where an entry is deferred. Nothing here speaks of one program.
-/
import Derived.Test.YthkmfihbpbehfaaSetFwR
import Derived.Test.YthkmfihbpbehfaaSetChunk
namespace Go.TR
set_option linter.unusedVariables false
set_option linter.unusedSimpArgs false
variable {P : Program} {tb : Tb} {N : Nat}
/-- A part of a code. -/
def partOf : Code → List Nat → Code
  | .seq x y, 0 :: p => partOf x p
  | .seq x y, _ :: p => partOf y p
  | c, _ => c
/-- What a call owes that hands back memory. -/
def owes (c0 : World) (F : Hp) (Q : Value → Hp → RL → Prop) (e : Ending) (w' : World) : Prop := ∃ x F' new, e = .returned x ∧ F.sub F' ∧ F'.le w' ∧ Pres [] c0 w' ∧ FNew F F' c0.heap.size ∧
  Owned F' new w' ∧ (∀ id r b, lkR new id = some r → r.at b → c0.heap.size ≤ b) ∧ Q x F' new
/-- A function with a hole in it, that hands back memory. -/
theorem call_goes (n : Nat) {f : FuncId} {fn : Func} {code : Code} (hf : P.funcs[f]? = some fn) (hb : fn.body = some code) {N : Nat} (hn : fn.ntmps = N) {args : List Value} {env : Env} (he : paramEnv 0 args = env) (hN : Nat.ble args.length N = true) {F : Hp} {Q : Value → Hp → RL → Prop}
    (h : ∀ w, F.le w → Goes P ⟨w, F, F, [], 0, 0⟩ N code (bodyPostM Fence.wide n P fn (owes w F Q)) ⟨env, F, [], 0⟩) : CallOK P F f args Q := by
  intro w hF
  subst hn he
  have hN' : args.length ≤ fn.ntmps := by simpa using hN
  refine (callsIn_wide (n := n)).1 (callsIn_of_wp_marks hf hb trivial ?_ rfl)
  exact wpIn_wide.2 (h w hF _ _ (start_sat hN' hF))
theorem owes_ok {c : Ctx} {F : Hp} {Q : Value → Hp → RL → Prop} {st : St} {a : Act} {w' : World} {v : Value} (hc : c.F0 = F) (hc1 : c.F1 = F) (hs : Sat c N st a w') (hq : Q v st.F st.rs) : owes c.wE F Q (.returned v) w' := by
  have hsub : F.sub st.F := by rw [← hc1]; exact hs.hist.sub
  subst hc
  exact ⟨_, st.F, st.rs, rfl, hsub, hs.wok.le, hs.wok.pres, hs.wok.fnew, hs.wok.own, fun id r b h1 h2 => hs.wok.new id r b h1 h2, hq⟩
/-- Less is known of the frozen part. -/
theorem sat_less {c : Ctx} {env : Env} {F F2 : Hp} {rs : RL} {nx : Nat} {a : Act} {W : World} (hs : Sat c N ⟨env, F2, rs, nx⟩ a W) (hF : F.sub F2) (h1 : c.F1.sub F) (hn : FNew c.F0 F c.wE.heap.size) : Sat c N ⟨env, F, rs, nx⟩ a W := {
  size := hs.size
  defers := hs.defers
  wok := {
    le := fun k o hk => hs.wok.le k o (hF k o hk)
    own := {
      own := fun id r hr => by
        have h2 := hs.wok.own.own id r hr
        cases hb : r.blk with
        | none => rw [hb] at h2; exact h2
        | some b =>
          rw [hb] at h2
          obtain ⟨g1, g2⟩ := h2
          refine ⟨?_, g2⟩
          cases hFb : F b with
          | none => exact hFb
          | some o =>
            have := hF b o hFb
            have g1 : F2 b = none := g1
            rw [g1] at this
            cases this
      apart := hs.wok.own.apart }
    pres := hs.wok.pres
    new := hs.wok.new
    fnew := hn
    sz := hs.wok.sz
    tp := hs.wok.tp }
  hist := ⟨h1, hs.hist.nxle, hs.hist.succ⟩
  rids := hs.rids
  ids := hs.ids
  env := hs.env
  gv := hs.gv }
/-- The same activation, with entries deferred below its own. -/
def withD (D : List Deferred) (a : Act) : Act := { a with defers := a.defers ++ D }
theorem withD_put (D : List Deferred) (a : Act) (d : Option Nat) (v : Value) : withD D (a.put d v) = (withD D a).put d v := by cases d <;> rfl
theorem withD_eval (D : List Deferred) (a : Act) : (withD D a).eval = a.eval := rfl
theorem upon_D {D : List Deferred} {o : Oper} {a : Act} {next next' : Act → World → Prop} {Q Q' : Exit → Act → World → Prop} (hn : ∀ a w, next' a w → next (withD D a) w) (hQ : ∀ e a w, Q' e a w → Q e (withD D a) w) {r : Result Next} (h : o.upon P a next' Q' r) : o.upon P (withD D a) next Q r := by
  have hL : LetsOut Q' → LetsOut Q := fun ⟨a, w, h⟩ => ⟨_, w, hQ _ _ _ h⟩
  cases r with
  | ok nx w' =>
    cases nx with
    | value v => have := hn _ _ h; rw [withD_put] at this; exact this
    | skip => have := hn _ _ h; rw [withD_put] at this; exact this
    | defer d => have := hn _ _ h; rw [withD_put] at this; exact this
    | enter f args =>
      refine Calls.mono h ?_
      intro e w2 h2
      cases e with
      | returned v => have := hn _ _ h2; rw [withD_put] at this; exact this
      | panicked chain => exact hQ _ _ _ h2
      | outgrown => exact hL h2
    | row row args =>
      refine Rows.mono h ?_
      intro v w2 h2
      have := hn _ _ h2; rw [withD_put] at this; exact this
    | _ => exact h
  | halt x w' =>
    cases x with
    | panic v => exact hQ _ _ _ h
    | _ => exact h
theorem wpList_D {D : List Deferred} {ops : Array Oper} {Q Q' : Exit → Act → World → Prop} (hQ : ∀ e a w, Q' e a w → Q e (withD D a) w) : ∀ (l : List Oper) (a : Act) (w : World), wpList P ops Q' l a w → wpList P ops Q l (withD D a) w
  | [], a, w, h => hQ _ _ _ h
  | o :: l, a, w, h => by
    unfold wpList at h ⊢
    have e : yielded ops (withD D a).tmps = yielded ops a.tmps := rfl
    rw [e]
    split at h
    · rename_i hw
      rw [if_pos hw]
      rcases h with h | ⟨h1, h2⟩
      · exact .inl (upon_D (fun a w h => wpList_D hQ l a w h) hQ h)
      · exact .inr ⟨h1, (fun ⟨a, w, h⟩ => ⟨_, w, hQ _ _ _ h⟩ : LetsOut Q' → LetsOut Q) h2⟩
    · rename_i hw
      rw [if_neg hw]
      have := wpList_D hQ l _ w h
      rw [withD_put] at this
      exact this
/-- A region, where entries are deferred. -/
theorem region_D (htb : TbOK P tb) {c : Ctx} {id : Nat} {l : List Oper} {K : St → Prop} {D : List Deferred} {st : St} {a : Act} {w : World} {Q : Exit → Act → World → Prop} (hs : Sat c N st a w) (k : vcOps P tb N false l l (dropG K) [] st)
    (hQ : ∀ st' a' w', Sat c N st' a' w' → K st' → Q .normal (withD D a') w') : (Code.region id l.toArray false).wp P Q (withD D a) w := by
  refine wp_region_list ?_
  refine wpList_D (Q' := fun e a' w' => match e with
    | .normal => ∃ st', Sat c N st' a' w' ∧ K st'
    | _ => False) (fun e a' w' h => ?_) _ _ _ ?_
  · cases e with
    | normal => obtain ⟨st', h1, h2⟩ := h; exact hQ _ _ _ h1 h2
    | _ => exact h.elim
  · refine ops_plain htb (K := dropG K) (fun g st' a' w' h1 h2 => ⟨st', ?_, h2⟩) _ [] st a w hs (by simpa using k)
    exact h1.drop
/-- Behind a range over a function: the entry is taken, the results are handed back. -/
theorem leave_D (htb : TbOK P tb) {c : Ctx} {n : Nat} {fn : Func} {F0 F : Hp} {Q : Value → Hp → RL → Prop} {env : Env} {rs : RL} {nx B D : Nat} {a : Act} {W : World} (hc0 : c.F0 = F0) (hc1 : c.F1 = F0) (hs : Sat c N ⟨env, F, rs, nx⟩ a W) (hB : ∀ k o, F k = some o → k < B) (hE : c.wE.heap.size ≤ B) (hD : B ≤ D) (hK : W.heap[D]? = some (.deferred (some [])))
    (h : VS N [] ⟨env, F, rs, nx⟩ fun st' => ∃ xs, resV tb st' fn.results.toList = some xs ∧ Q (tupV xs) st'.F st'.rs) : LeavesInM Fence.wide n P fn a.tmps (owes c.wE F0 Q) [{ target := .collected D, args := #[] }] .returning W := by
  refine ⟨by simp, .inl ⟨_, _, rfl, run_takeDeferred hK, ?_⟩⟩
  have hs2 := sat_own hs hB hE (grownBy_putObj' W D (.deferred none)) (fun r e => by cases e; exact ⟨hD, _, hK, rfl⟩)
  obtain ⟨st', h1, xs, h2, h3⟩ := h _ _ _ hs2
  exact ⟨_, results_ok htb h1 h2, owes_ok hc0 hc1 h1 h3⟩
theorem ret_goesC (htb : TbOK P tb) {c : Ctx} {y : Code} {n : Nat} {fn : Func} {F0 : Hp} {Q : Value → Hp → RL → Prop} {st : St} (hc0 : c.F0 = F0) (hc1 : c.F1 = F0)
    (h : VS N [] st fun st' => ∃ xs, resV tb st' fn.results.toList = some xs ∧ Q (tupV xs) st'.F st'.rs) : goesK P c N y (bodyPostM Fence.wide n P fn (owes c.wE F0 Q)) .ret st := fun a w hs => by
  show LeavesInM _ _ _ _ _ _ a.defers _ _
  rw [hs.defers]
  obtain ⟨st', h1, xs, h2, h3⟩ := h _ _ _ hs
  exact ⟨_, results_ok htb h1 h2, owes_ok hc0 hc1 h1 h3⟩
/-- The frozen part but for one object. -/
def Hp.less (F : Hp) (D : Nat) : Hp := fun k => if k = D then none else F k
theorem Hp.less_sub (F : Hp) (D : Nat) : (F.less D).sub F := fun k o h => by
  unfold Hp.less at h
  split at h
  · cases h
  · exact h
theorem frow_less {F : Hp} {D : Nat} {p : Option Addr} {cs : List Value} {o : Obj} (hD : F D = some o) (ho : o.isCells = false) (h : Frow F p cs) : Frow (F.less D) p cs := fun j u hj => by
  have h1 := h j u hj
  unfold Pcell at h1 ⊢
  cases hp : padd p j with
  | none => rw [hp] at h1; cases h1
  | some a =>
    rw [hp] at h1
    simp only [Option.bind_some] at h1 ⊢
    unfold Fcell at h1 ⊢
    have hne : a.block ≠ D := fun e => by
      rw [e, hD] at h1
      cases o <;> first | cases h1 | cases ho
    unfold Hp.less
    rw [if_neg hne]
    exact h1
theorem sat_putD {c : Ctx} {env : Env} {F : Hp} {rs : RL} {nx D : Nat} {o o' : Obj} {a : Act} {W : World} (hs : Sat c N ⟨env, F, rs, nx⟩ a W) (hF : F D = none) (hE : c.wE.heap.size ≤ D) (hK : W.heap[D]? = some o) (ho : o.isCells = false) : Sat c N ⟨env, F, rs, nx⟩ a (W.putObj D o') := by
  have hg := grownBy_putObj' W D o'
  have hblk : ∀ k (x : Obj), W.heap[k]? = some x → k ≠ D → (W.putObj D o').heap[k]? = some x := fun k x hk hne =>
    (hg.block k (lt_of_some hk) (fun e => by cases e; exact hne rfl)).trans hk
  exact {
    size := hs.size
    defers := hs.defers
    wok := {
      le := fun k x hk => hblk k x (hs.wok.le k x hk) (fun e => by
        have hk : F k = some x := hk
        rw [e, hF] at hk; cases hk)
      own := {
        own := fun id r hr' => by
          have h1 := hs.wok.own.own id r hr'
          cases hb : r.blk with
          | none => rw [hb] at h1; exact h1
          | some b =>
            rw [hb] at h1
            obtain ⟨g1, g2, cur, g3, g4⟩ := h1
            refine ⟨g1, g2, cur, hblk b _ g3 (fun e => ?_), g4⟩
            rw [e, hK] at g3
            cases g3
            cases ho
        apart := hs.wok.own.apart }
      pres := ⟨hg.os.trans hs.wok.pres.os, hg.tape.trans hs.wok.pres.tape, hg.output.trans hs.wok.pres.output, Nat.le_trans hs.wok.pres.size hg.size, fun k hk hx => by
        refine (hg.block k (Nat.lt_of_lt_of_le hk hs.wok.pres.size) (fun e => ?_)).trans (hs.wok.pres.block k hk hx)
        cases e
        omega⟩
      new := hs.wok.new
      fnew := hs.wok.fnew
      sz := Nat.le_trans hs.wok.sz hg.size
      tp := hs.wok.tp }
    hist := hs.hist
    rids := hs.rids
    ids := hs.ids
    env := hs.env
    gv := hs.gv }
/-- Behind a range over a function: one more region, and the results are handed back. -/
theorem done_D (htb : TbOK P tb) {c : Ctx} {n : Nat} {fn : Func} {F0 F : Hp} {Q : Value → Hp → RL → Prop} {env : Env} {rs : RL} {nx B D id : Nat} {l : List Oper} {a : Act} {W : World} (hc0 : c.F0 = F0) (hc1 : c.F1 = F0) (hs : Sat c N ⟨env, F, rs, nx⟩ a W) (hB : ∀ k o, F k = some o → k < B) (hE : c.wE.heap.size ≤ B) (hD : B ≤ D) (hK : W.heap[D]? = some (.deferred (some [])))
    (h : ∀ F4, F.sub F4 → F4 D = some (.deferred (some [])) → VS N [] ⟨env, F4, rs, nx⟩ fun st1 => vcOps P tb N false l l (dropG fun st' => F4.sub st'.F ∧ ∃ xs, resV tb ⟨st'.env, st'.F.less D, st'.rs, st'.nx⟩ fn.results.toList = some xs ∧ Q (tupV xs) (st'.F.less D) st'.rs) [] st1) :
    ((Code.region id l.toArray false).seq .ret).wp P (bodyPostM Fence.wide n P fn (owes c.wE F0 Q)) (withD [{ target := .collected D, args := #[] }] a) W := by
  have hsub : c.F1.sub F := hs.hist.sub
  have hD4 : Fx F B W D = some (.deferred (some [])) := Fx_other hD hK rfl
  obtain ⟨st1, h1, h2⟩ := h (Fx F B W) (Fx_sub hB) hD4 c a W (sat_more hs hB hE)
  refine wp_seq (region_D htb h1 h2 ?_)
  rintro ⟨env', F', rs', nx'⟩ a' w' hs' ⟨g1, xs, g2, g3⟩
  dsimp only at g1 g2 g3
  refine wp_ret ?_
  show LeavesInM Fence.wide n P fn a'.tmps _ (withD _ a').defers .returning w'
  have hd : (withD [{ target := .collected D, args := #[] }] a').defers = [{ target := .collected D, args := #[] }] := by
    unfold withD
    rw [hs'.defers]
    rfl
  rw [hd]
  have hDF : F' D = some (.deferred (some [])) := g1 D _ hD4
  have hKw : w'.heap[D]? = some (.deferred (some [])) := hs'.wok.le D _ hDF
  have hs2 : Sat c N ⟨env', F'.less D, rs', nx'⟩ a' w' := sat_less hs' (Hp.less_sub _ _) (fun k o hk => by
    have k1 := hsub k o hk
    have := hB k o k1
    unfold Hp.less
    rw [if_neg (by omega)]
    exact g1 k o (Fx_sub hB k o k1)) (fun k hk => by
    cases hf : (F'.less D) k with
    | none => rw [hf] at hk; cases hk
    | some o =>
      exact hs'.wok.fnew k (by
        have := Hp.less_sub F' D k o hf
        show (F' k).isSome = true
        rw [this]; rfl))
  refine ⟨by simp, .inl ⟨_, _, rfl, run_takeDeferred hKw, ?_⟩⟩
  have hs3 := sat_putD (o' := .deferred none) hs2 (by unfold Hp.less; rw [if_pos rfl]) (Nat.le_trans hE hD) hKw rfl
  exact ⟨_, results_ok htb hs3 g2, owes_ok hc0 hc1 hs3 g3⟩
end Go.TR
