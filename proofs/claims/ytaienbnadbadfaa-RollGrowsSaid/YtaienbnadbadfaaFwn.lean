/-
A small program logic of our own for the model. Part n: a block of the call's own is frozen: from then on it belongs to the part of memory that nobody writes; the nil slice as a row. Nothing here speaks of one program.
-/
import Derived.Test.YtaienbnadbadfaaFwl
namespace Go.TR
section
variable {N : Nat}

/-- What stood for the block, or a place in it, is an address now. -/
def frzE (b id : Nat) : EV → EV
  | .v x => .v x
  | .loc i o => match Nat.beq i id with
    | true => .v (.pointer (some ⟨b, o, none⟩))
    | false => .loc i o
  | .row i o n c => match Nat.beq i id with
    | true => .v (.slice (some ⟨b, o, none⟩) n c)
    | false => .row i o n c
def frzL (b id : Nat) : List EV → List EV
  | [] => []
  | e :: t => frzE b id e :: frzL b id t
def frzR (b id : Nat) : RL → RL
  | [] => []
  | (m, ⟨bb, cells, ty, cap⟩) :: t => match Nat.beq m id with
    | true => frzR b id t
    | false => (m, ⟨bb, frzL b id cells, ty, cap⟩) :: frzR b id t
def frzN (b id : Nat) : Env → Env
  | [] => []
  | (n, e) :: t => (n, frzE b id e) :: frzN b id t
theorem frzL_map (b id : Nat) : ∀ l : List EV, frzL b id l = l.map (frzE b id)
  | [] => rfl
  | e :: t => by simp only [frzL, List.map_cons, frzL_map b id t]
theorem frzL_v (b id : Nat) (l : List Value) : frzL b id (l.map .v) = l.map .v := by
  rw [frzL_map, List.map_map]; rfl
theorem beq_false {m n : Nat} (h : m ≠ n) : Nat.beq m n = false := by cases hb : Nat.beq m n with | false => rfl | true => exact absurd (Nat.eq_of_beq_eq_true hb) h
theorem lkR_frz {b id : Nat} {rs : RL} {k : Nat} : lkR (frzR b id rs) k = if k = id then none else (lkR rs k).map fun r => ⟨r.blk, frzL b id r.cells, r.ty, r.cap⟩ := by
  induction rs with
  | nil => simp [frzR, lkR]
  | cons p rs ih =>
    obtain ⟨m, ⟨bb, cells, ty, cap⟩⟩ := p
    simp only [frzR]
    by_cases hm : m = id
    · subst hm
      simp only [Nat.beq_refl]
      rw [ih, lkR_cons]
      by_cases hk : k = m <;> simp [hk]
    · rw [beq_false hm]
      simp only []
      rw [lkR_cons, ih, lkR_cons]
      by_cases hk : k = m
      · subst hk; simp [hm]
      · simp only [if_neg hk]
theorem lk_frz {b id : Nat} {env : Env} {k : Nat} : lk (frzN b id env) k = (lk env k).map (frzE b id) := by
  induction env with
  | nil => rfl
  | cons p env ih =>
    obtain ⟨m, e⟩ := p
    simp only [frzN]
    rw [lk_cons, ih, lk_cons]
    by_cases hk : k = m <;> simp [hk]
theorem val_frz {id b : Nat} {rs : RL} {r : Blk} (hr : lkR rs id = some r) (hb : r.blk = some b) (e : EV) (x : Value) (hx : (frzE b id e).val (frzR b id rs) = some x) : e.val rs = some x := by
  cases e with
  | v y => exact hx
  | loc i o =>
    by_cases hi : i = id
    · subst hi
      simp only [frzE, Nat.beq_refl, EV.val] at hx
      simp only [EV.val, hr, hb]
      exact hx
    · simp only [frzE, beq_false hi, EV.val, lkR_frz, if_neg hi] at hx
      simp only [EV.val]
      cases hk : lkR rs i with
      | none => simp [hk] at hx
      | some s => rw [hk] at hx; exact hx
  | row i o n c =>
    by_cases hi : i = id
    · subst hi
      simp only [frzE, Nat.beq_refl, EV.val] at hx
      simp only [EV.val, hr, hb]
      exact hx
    · simp only [frzE, beq_false hi, EV.val, lkR_frz, if_neg hi] at hx
      simp only [EV.val]
      cases hk : lkR rs i with
      | none => simp [hk] at hx
      | some s => rw [hk] at hx; exact hx
theorem lt_frz {b id nx : Nat} {e : EV} (h : e.lt nx) : (frzE b id e).lt nx := by
  cases e with
  | v x => trivial
  | loc i o => simp only [frzE]; split <;> first | trivial | exact h
  | row i o n c => simp only [frzE]; split <;> first | trivial | exact h
end
section
variable {N : Nat}
/-- The heap with one more frozen block. -/
def Hp.plus (F : Hp) (b : Nat) (o : Obj) : Hp := fun k => if k = b then some o else F k
theorem freeze_sat {c : Ctx} {env : Env} {F : Hp} {rs : RL} {nx : Nat} {a : Act} {w : World} (h : GSat c N [] ⟨env, F, rs, nx⟩ a w) {id : Nat} {r : Blk} {b : Nat} (hr : lkR rs id = some r) (hb : r.blk = some b) {cs : List Value} (hcs : allV rs r.cells = some cs) :
    ∃ F', F.sub F' ∧ Frow F' (some ⟨b, 0, none⟩) cs ∧ GSat c N [] ⟨frzN b id env, F', frzR b id rs, nx⟩ a w := by
  have hown := h.wok.own.own id r hr
  rw [hb] at hown
  obtain ⟨o1, o2, cur, o3, o4, o5⟩ := hown
  have o1 : F b = none := o1
  have hsub : F.sub (F.plus b (.cells cur r.ty (0, 0))) := fun k o e => by
    unfold Hp.plus
    rw [if_neg (by rintro rfl; rw [o1] at e; cases e)]
    exact e
  have hv : ∀ e x, (frzE b id e).val (frzR b id rs) = some x → e.val rs = some x := fun e x hx => val_frz hr hb e x hx
  have hlk : ∀ {k s}, lkR (frzR b id rs) k = some s → k ≠ id ∧ ∃ s0, lkR rs k = some s0 ∧ s = ⟨s0.blk, frzL b id s0.cells, s0.ty, s0.cap⟩ := fun {k s} hs => by
    rw [lkR_frz] at hs
    split at hs
    · cases hs
    · rename_i hk
      rw [Option.map_eq_some_iff] at hs
      obtain ⟨s0, h1, h2⟩ := hs
      exact ⟨hk, s0, h1, h2.symm⟩
  refine ⟨F.plus b (.cells cur r.ty (0, 0)), hsub, fun j u hj => ?_, ?_⟩
  · obtain ⟨e, he, hx⟩ := (allV_spec hcs).2 j u hj
    have := o5 j e u he hx
    simp only [padd, Option.map_some, Pcell, Option.bind_some, addr_add0, Nat.zero_add, Fcell, Hp.plus, if_true]
    simpa using this
  · exact {
      size := h.size
      defers := h.defers
      wok := {
        le := fun k o e => by
          have e : (if k = b then some (.cells cur r.ty (0, 0)) else F k) = some o := e
          by_cases hk : k = b
          · subst hk
            rw [if_pos rfl] at e
            rw [← e]; exact o3
          · rw [if_neg hk] at e
            exact h.wok.le k o e
        own := {
          own := fun k s hs => by
            obtain ⟨hk, s0, h1, rfl⟩ := hlk hs
            have h2 := h.wok.own.own k s0 h1
            cases hsb : s0.blk with
            | none =>
              rw [hsb] at h2
              simp only
              exact ⟨by rw [h2.1]; rfl, h2.2⟩
            | some b' =>
              rw [hsb] at h2
              simp only
              obtain ⟨g1, g2, cur', g3, g4, g5⟩ := h2
              have hne : b' ≠ b := by
                rintro rfl
                exact hk (h.wok.own.apart k id s0 r _ h1 hr hsb hb)
              refine ⟨by unfold Hp.plus; rw [if_neg hne]; exact g1, by rw [frzL_map, List.length_map]; exact g2, cur', g3, g4, fun j ev x hj hx => ?_⟩
              rw [frzL_map, List.getElem?_map, Option.map_eq_some_iff] at hj
              obtain ⟨e0, h5, rfl⟩ := hj
              exact g5 j e0 x h5 (hv e0 x hx)
          apart := fun i j s t b' hi hj hs ht => by
            obtain ⟨_, s0, h1, rfl⟩ := hlk hi
            obtain ⟨_, t0, h2, rfl⟩ := hlk hj
            exact h.wok.own.apart i j s0 t0 b' h1 h2 hs ht }
        pres := h.wok.pres
        new := fun k s b' hs hsb => by
          obtain ⟨_, s0, h1, rfl⟩ := hlk hs
          exact h.wok.new k s0 b' h1 hsb
        fnew := fun k hk => by
          have hk : (if k = b then some (.cells cur r.ty (0, 0)) else F k).isSome = true := hk
          by_cases he : k = b
          · subst he
            exact .inr (h.wok.new id r _ hr hb)
          · rw [if_neg he] at hk
            exact h.wok.fnew k hk }
      hist := {
        sub := h.hist.sub.trans hsub
        nxle := h.hist.nxle
        succ := fun k s hk hs => by
          obtain ⟨_, s0, h1, rfl⟩ := hlk hs
          exact h.hist.succ k s0 hk h1 }
      rids := fun k s hs => by
        obtain ⟨_, s0, h1, rfl⟩ := hlk hs
        obtain ⟨h2, h3⟩ := h.rids k s0 h1
        refine ⟨h2, fun e he => ?_⟩
        simp only [frzL_map, List.mem_map] at he
        obtain ⟨e0, h4, rfl⟩ := he
        exact lt_frz (h3 e0 h4)
      ids := fun n e he => by
        simp only [lk_frz, Option.map_eq_some_iff] at he
        obtain ⟨e0, h1, rfl⟩ := he
        exact lt_frz (h.ids n e0 h1)
      env := fun n e x _ he hx => by
        simp only [lk_frz, Option.map_eq_some_iff] at he
        obtain ⟨e0, h1, rfl⟩ := he
        exact h.env n e0 x rfl h1 (hv e0 x hx)
      gv := fun n ch e he => by simp [lkG] at he }
/-- The slots that are named alone, one by one. -/
def keepN (env : Env) : List Nat → Option Env
  | [] => some []
  | n :: t => match Go.TR.lk env n with
    | some (.v (.slice p n' c')) => (match keepN env t with
      | some l => some ((n, .v (.slice (p) n' c')) :: l)
      | none => none)
    | some (.v (.pointer p)) => (match keepN env t with
      | some l => some ((n, .v (.pointer (p))) :: l)
      | none => none)
    | some (.v x) => (match keepN env t with
      | some l => some ((n, .v x) :: l)
      | none => none)
    | some (.loc i o) => (match keepN env t with
      | some l => some ((n, .loc i o) :: l)
      | none => none)
    | some (.row i o n' c') => (match keepN env t with
      | some l => some ((n, .row i o n' c') :: l)
      | none => none)
    | none => none
theorem keepN_lk : ∀ {slots : List Nat} {env env' : Env}, keepN env slots = some env' → ∀ n e, lk env' n = some e → lk env n = some e
  | [], env, env', h, n, e, he => by simp only [keepN, Option.some.injEq] at h; subst h; simp [lk] at he
  | m :: t, env, env', h, n, e, he => by
    have step : ∀ {x : EV} {l : Env}, lk env m = some x → keepN env t = some l → lk ((m, x) :: l) n = some e → lk env n = some e := fun {x l} hx hl hk => by
      rw [lk_cons] at hk
      split at hk
      · rename_i hn
        subst hn
        rw [hx]; exact hk
      · exact keepN_lk hl n e hk
    simp only [keepN] at h
    split at h <;> first | (simp at h; done) | skip
    all_goals
      rename_i hx
      split at h <;> first | (simp at h; done) | skip
      rename_i l hl
      simp only [Option.some.injEq] at h
      subst h
      exact step hx hl he
theorem keepN_sat {c : Ctx} {env env' : Env} {F : Hp} {rs : RL} {nx : Nat} {a : Act} {w : World} {slots : List Nat} (hk : keepN env slots = some env') (h : GSat c N [] ⟨env, F, rs, nx⟩ a w) : GSat c N [] ⟨env', F, rs, nx⟩ a w where
  size := h.size
  defers := h.defers
  wok := h.wok
  hist := h.hist
  rids := h.rids
  ids := fun n e he => h.ids n e (keepN_lk hk n e he)
  env := fun n e x hg he hx => h.env n e x hg (keepN_lk hk n e he) hx
  gv := fun n ch e he => by simp [lkG] at he
theorem VS.keepN {env env' : Env} {F : Hp} {rs : RL} {nx : Nat} {G : St → Prop} (slots : List Nat) (h : keepN env slots = some env') (k : G ⟨env', F, rs, nx⟩) : VS N [] ⟨env, F, rs, nx⟩ G := fun _ _ _ hs => ⟨_, keepN_sat h hs, k⟩
/-- A block is frozen; the slots that are named are kept. -/
theorem VS.freeze {env env' : Env} {F : Hp} {rs rs' : RL} {nx : Nat} {G : St → Prop} (id : Nat) {b : Nat} {cells : List EV} {ty : TypeId} {cap : Nat} {cs : List Value} (slots : List Nat) (hr : lkR rs id = some ⟨some b, cells, ty, cap⟩) (hcs : allV rs cells = some cs) (hrs : forceL (frzR b id rs) = some rs') (henv : Go.TR.keepN (frzN b id env) slots = some env')
    (k : ∀ F', F.sub F' → Frow F' (some ⟨b, 0, none⟩) cs → VS N [] ⟨env', F', rs', nx⟩ G) : VS N [] ⟨env, F, rs, nx⟩ G := by
  intro c a w hs
  obtain ⟨F', h1, h2, h3⟩ := freeze_sat hs hr rfl hcs
  rw [forceL_eq, Option.some.injEq] at hrs
  subst hrs
  exact k F' h1 h2 c a w (keepN_sat henv h3)
theorem VS.done {G : St → Prop} {st : St} (k : G st) : VS N [] st G := VS.id k
/-- Names of blocks that are of no use any more go. -/
def dropR (ids : List Nat) : RL → RL
  | [] => []
  | (m, r) :: t => match ids.contains m with
    | true => dropR ids t
    | false => (m, r) :: dropR ids t
theorem lkR_drop {ids : List Nat} {rs : RL} {k : Nat} {r : Blk} (h : lkR (dropR ids rs) k = some r) : lkR rs k = some r ∨ k ∈ ids := by
  induction rs with
  | nil => simp [dropR, lkR] at h
  | cons p rs ih =>
    obtain ⟨m, s⟩ := p
    simp only [dropR] at h
    split at h
    · rename_i hc
      rw [lkR_cons]
      by_cases hk : k = m
      · subst hk; right; simpa using hc
      · rw [if_neg hk]; exact ih h
    · rw [lkR_cons] at h ⊢
      split at h
      · rename_i hk; rw [if_pos hk]; exact .inl h
      · rename_i hk; rw [if_neg hk]; exact ih h
theorem lkR_drop' {ids : List Nat} {rs : RL} {k : Nat} : lkR (dropR ids rs) k = if k ∈ ids then none else lkR rs k := by
  induction rs with
  | nil => simp [dropR, lkR]
  | cons p rs ih =>
    obtain ⟨m, s⟩ := p
    simp only [dropR]
    split
    · rename_i hc
      rw [ih, lkR_cons]
      by_cases hk : k = m
      · subst hk; rw [if_pos (by simpa using hc), if_pos (by simpa using hc)]
      · simp only [if_neg hk]
    · rename_i hc
      rw [lkR_cons, ih, lkR_cons]
      by_cases hk : k = m
      · subst hk; rw [if_pos rfl, if_neg (by simpa using hc), if_pos rfl]
      · simp only [if_neg hk]
theorem sub_sat {c : Ctx} {env : Env} {F : Hp} {rs rs' : RL} {nx : Nat} {a : Act} {w : World} (h : GSat c N [] ⟨env, F, rs, nx⟩ a w) (hsub : ∀ k r, lkR rs' k = some r → lkR rs k = some r) : GSat c N [] ⟨env, F, rs', nx⟩ a w where
  size := h.size
  defers := h.defers
  wok := {
    le := h.wok.le
    own := {
      own := fun id r hr => by
        have h1 := h.wok.own.own id r (hsub _ _ hr)
        cases hb : r.blk with
        | none => rw [hb] at h1; exact h1
        | some b =>
          rw [hb] at h1
          obtain ⟨g1, g2, cur, g3, g4, g5⟩ := h1
          exact ⟨g1, g2, cur, g3, g4, fun j ev x hj hx => g5 j ev x hj (val_sub hsub hx)⟩
      apart := fun i j r s b hi hj => h.wok.own.apart i j r s b (hsub _ _ hi) (hsub _ _ hj) }
    pres := h.wok.pres
    new := fun id r b hr => h.wok.new id r b (hsub _ _ hr)
    fnew := h.wok.fnew }
  hist := ⟨h.hist.sub, h.hist.nxle, fun id r hid hr => h.hist.succ id r hid (hsub _ _ hr)⟩
  rids := fun id r hr => h.rids id r (hsub _ _ hr)
  ids := h.ids
  env := fun n e x hg he hx => h.env n e x hg he (val_sub hsub hx)
  gv := fun n ch e he => by simp [lkG] at he
theorem VS.dropR {env : Env} {F : Hp} {rs rs' : RL} {nx : Nat} {G : St → Prop} (ids : List Nat) (hrs : forceL (Go.TR.dropR ids rs) = some rs') (k : VS N [] ⟨env, F, rs', nx⟩ G) : VS N [] ⟨env, F, rs, nx⟩ G := by
  intro c a w hs
  rw [forceL_eq, Option.some.injEq] at hrs
  subst hrs
  exact k c a w (sub_sat hs (fun k r hk => by
    rw [lkR_drop'] at hk
    split at hk
    · cases hk
    · exact hk))
/-- The nil slice as a row without a block. -/
theorem VS.nilrow {env env' : Env} {F : Hp} {rs : RL} {nx : Nat} {G : St → Prop} (s : Nat) (ty : TypeId) (slots : List Nat) (h : lk env s = some (.v (.slice none 0 0))) (henv : Go.TR.keepN env slots = some env') (k : VS N [] ⟨(s, .row nx 0 0 0) :: env', F, (nx, ⟨none, [], ty, 0⟩) :: rs, nx + 1⟩ G) : VS N [] ⟨env, F, rs, nx⟩ G := by
  intro c a w hs
  have hne : ∀ id r, lkR rs id = some r → id ≠ nx := fun id r hr => by have := (hs.rids id r hr).1; simp only at this; omega
  have h0 := hs.env s _ _ rfl h rfl
  refine k c a w ?_
  exact {
    size := hs.size
    defers := hs.defers
    wok := {
      le := hs.wok.le
      own := {
        own := fun id r hr => by
          rw [lkR_cons] at hr
          split at hr
          · simp only [Option.some.injEq] at hr
            subst hr
            exact ⟨rfl, rfl⟩
          · have h1 := hs.wok.own.own id r hr
            cases hb : r.blk with
            | none => rw [hb] at h1; exact h1
            | some b =>
              rw [hb] at h1
              obtain ⟨g1, g2, cur, g3, g4, g5⟩ := h1
              refine ⟨g1, g2, cur, g3, g4, fun j ev x hj hx => ?_⟩
              rw [val_cons ((hs.rids id r hr).2 ev (List.mem_of_getElem? hj))] at hx
              exact g5 j ev x hj hx
        apart := fun i j r s b hi hj hb hs' => by
          rw [lkR_cons] at hi hj
          split at hi
          · simp only [Option.some.injEq] at hi; subst hi; cases hb
          · split at hj
            · simp only [Option.some.injEq] at hj; subst hj; cases hs'
            · exact hs.wok.own.apart i j r s b hi hj hb hs' }
      pres := hs.wok.pres
      new := fun id r b hr hb => by
        rw [lkR_cons] at hr
        split at hr
        · simp only [Option.some.injEq] at hr; subst hr; cases hb
        · exact hs.wok.new id r b hr hb
      fnew := hs.wok.fnew }
    hist := hs.hist.cons _
    rids := fun id r hr => by
      simp only [lkR_cons] at hr
      split at hr
      · simp only [Option.some.injEq] at hr
        subst hr
        exact ⟨by simp only; omega, fun e he => by cases he⟩
      · obtain ⟨h1, h2⟩ := hs.rids id r hr
        exact ⟨by simp only at h1 ⊢; omega, fun e he => (h2 e he).mono (Nat.le_succ _)⟩
    ids := fun n e he => by
      simp only [lk_cons] at he
      split at he
      · simp only [Option.some.injEq] at he; subst he; simp only [EV.lt]; omega
      · exact (hs.ids n e (keepN_lk henv n e he)).mono (Nat.le_succ _)
    env := fun n e x hg he hx => by
      simp only [lk_cons] at he
      split at he
      · rename_i hn
        subst hn
        simp only [Option.some.injEq] at he
        subst he
        simp only [EV.val, lkR_cons, if_true, Option.map_none, Option.some.injEq] at hx
        rw [h0, hx]
      · have hl := keepN_lk henv n e he
        rw [val_cons (hs.ids n e hl)] at hx
        exact hs.env n e x rfl hl hx
    gv := fun n ch e he => by simp [lkG] at he }
theorem VS.trans {G : St → Prop} {st : St} (h : VS N [] st (fun st' => VS N [] st' G)) : VS N [] st G := fun c a w hs => by
  obtain ⟨st', h1, h2⟩ := h c a w hs
  exact h2 c a w h1
end
section
variable {P : Program} {tb : Tb} {N : Nat} {KK : Exit → St → Prop} {st : St}
/-- Behind a round of a loop whose rounds are told of by a value of which something is known. -/
def loopPK {α : Type} (N kn : Nat) (Inv : α → Prop) (T : α → St) (μ : α → Nat) (i : α) (K : Exit → St → Prop) : Exit → St → Prop
  | .normal, st => VSf (min kn (T i).nx) N [] st fun st' => ∃ j, Inv j ∧ st' = T j ∧ μ j < μ i
  | .ret, st => VS N [] st (K .ret)
  | .exit j, st => VS N [] st (K (.exit j))
  | .goto j, st => K (.goto j) st
  | .panic c, st => K (.panic c) st
  | .outgrown, st => K .outgrown st
theorem loopPK_eq {α : Type} (kn : Nat) (Inv : α → Prop) (T : α → St) (μ : α → Nat) (i : α) (hi : Inv i) (K : Exit → St → Prop) : loopK N kn (fun s : { a // Inv a } => T s.1) (fun s => μ s.1) ⟨i, hi⟩ K = loopPK N kn Inv T μ i K := by
  funext e st
  cases e <;> simp only [loopK, loopPK]
  congr 1
  funext st'
  exact propext ⟨fun ⟨j, h1, h2⟩ => ⟨j.1, j.2, h1, h2⟩, fun ⟨j, h0, h1, h2⟩ => ⟨⟨j, h0⟩, h1, h2⟩⟩
/-- A loop whose rounds are told of by a value of which something is known. -/
theorem s_loopP {x : Code} {α : Type} (Inv : α → Prop) (T : α → St) (μ : α → Nat) (i : α) (hi : Inv i) (h0 : VS N [] st fun st' => st' = T i) (hr : ∀ i, Inv i → vc P tb N x (loopPK N st.nx Inv T μ i KK) (T i)) : vc P tb N (.loop x) KK st :=
  ⟨{ a // Inv a }, fun s => T s.1, fun s => μ s.1, fun c a w hs => by
    obtain ⟨st', h1, h2⟩ := h0 c a w hs
    exact ⟨st', h1, ⟨i, hi⟩, h2⟩, fun ⟨i, hi⟩ => by rw [loopPK_eq]; exact hr i hi⟩
/-- A loop that is left on several ways: what is told of the state behind it. -/
theorem s_loopJ {x : Code} {α β : Type} (id : Nat) (Inv : α → Prop) (T : α → St) (μ : α → Nat) (i : α) (JP : β → Prop) (J : β → St) (hi : Inv i) (h0 : VS N [] st fun st' => st' = T i) (hJ : ∀ b, JP b → KK (.exit id) (J b))
    (hr : ∀ i, Inv i → ∀ KK2 : Exit → St → Prop, (∀ st', (VSf (min st.nx (T i).nx) N [] st' fun st' => ∃ j, Inv j ∧ st' = T j ∧ μ j < μ i) → KK2 .normal st') → (∀ st, (VS N [] st fun st' => ∃ b, JP b ∧ st' = J b) → KK2 (.exit id) st) → (∀ st, KK .ret st → KK2 .ret st) → vc P tb N x KK2 (T i)) : vc P tb N (.loop x) KK st :=
  s_loopP Inv T μ i hi h0 fun i hi => hr i hi _ (fun st h => h) (fun st h c a w hs => by
    obtain ⟨st', h1, b, h2, rfl⟩ := h c a w hs
    exact ⟨_, h1, hJ b h2⟩) (fun st h => VS.id h)
/-- Ways that meet again: what is told of the state where they do. -/
theorem s_joinK {x c : Code} {id : Nat} {ops : Array Oper} {b : Bool} {β : Type} (JP : β → Prop) (J : β → St) (hJ : ∀ j, JP j → vc P tb N (.seq (.region id ops b) c) KK (J j))
    (hx : ∀ KK2 : Exit → St → Prop, (∀ st, (VS N [] st fun st' => ∃ j, JP j ∧ st' = J j) → KK2 .normal st) → (∀ st, KK .ret st → KK2 .ret st) → (∀ i st, KK (.exit i) st → KK2 (.exit i) st) → vc P tb N x KK2 st) : vc P tb N x (seqK (vc P tb N (.seq (.region id ops b) c) KK) KK) st :=
  hx _ (fun st h => s_vs (id := id) (ops := ops) (b := b) (KK := seqK (vc P tb N c KK) KK) (fun c' a w hs => by
    obtain ⟨st', h1, j, h2, rfl⟩ := h c' a w hs
    exact ⟨_, h1, hJ j h2⟩)) (fun _ h => h) (fun _ _ h => h)
theorem s_loopPn {α : Type} {kn : Nat} {Inv : α → Prop} {T : α → St} {μ : α → Nat} {i : α} (j : α) (hj : Inv j) (hm : μ j < μ i) (h : VS N [] st fun st' => st' = T j) : loopPK N kn Inv T μ i KK .normal st := fun c a w _ hs => by
  obtain ⟨st', h1, h2⟩ := h c a w hs
  exact ⟨st', h1, j, hj, h2, hm⟩
theorem VSf.of {k : Nat} {G : St → Prop} (h : VS N [] st G) : VSf k N [] st G := fun c a w _ hs => h c a w hs
def ltB (n : Nat) : EV → Bool
  | .v _ => true
  | .loc id _ => Nat.blt id n
  | .row id _ _ _ => Nat.blt id n
def envLt (n : Nat) : Env → Bool
  | [] => true
  | (_, e) :: t => ltB n e && envLt n t
def rlLt (n : Nat) : RL → Prop
  | [] => True
  | (id, r) :: t => (id < n ∧ ∀ e ∈ r.cells, e.lt n) ∧ rlLt n t
theorem ltB_lt {n : Nat} {e : EV} (h : ltB n e = true) : e.lt n := by
  cases e <;> simp only [ltB, Nat.blt_eq] at h <;> first | trivial | exact h
theorem envLt_lk {n : Nat} : ∀ {env : Env}, envLt n env = true → ∀ k e, lk env k = some e → e.lt n
  | [], _, k, e, h => by simp [lk] at h
  | (m, x) :: t, h, k, e, he => by
    simp only [envLt, Bool.and_eq_true] at h
    rw [lk_cons] at he
    split at he
    · simp only [Option.some.injEq] at he; subst he; exact ltB_lt h.1
    · exact envLt_lk h.2 k e he
theorem rlLt_lk {n : Nat} : ∀ {rs : RL}, rlLt n rs → ∀ id r, lkR rs id = some r → id < n ∧ ∀ e ∈ r.cells, e.lt n
  | [], _, id, r, h => by simp [lkR] at h
  | (m, x) :: t, h, id, r, hr => by
    rw [lkR_cons] at hr
    split at hr
    · rename_i hid
      simp only [Option.some.injEq] at hr
      subst hid hr
      exact h.1
    · exact rlLt_lk h.2 id r hr
/-- Names of blocks that are of no use go, and the next name may be a lower one again. -/
theorem VSf.clean {k : Nat} {env env' : Env} {F : Hp} {rs rs' : RL} {nx : Nat} {G : St → Prop} (drop : List Nat) (slots : List Nat) (hrs : forceL (Go.TR.dropR drop rs) = some rs') (henv : Go.TR.keepN env slots = some env') (h1 : envLt k env' = true) (h2 : rlLt k rs') (kk : G ⟨env', F, rs', k⟩) : VSf k N [] ⟨env, F, rs, nx⟩ G := by
  intro c a w hk hs
  rw [forceL_eq, Option.some.injEq] at hrs
  subst hrs
  have hs1 := keepN_sat henv (sub_sat (rs' := Go.TR.dropR drop rs) hs (fun k r hk => by
    rw [lkR_drop'] at hk
    split at hk
    · cases hk
    · exact hk))
  exact ⟨⟨env', F, Go.TR.dropR drop rs, k⟩, {
    size := hs1.size
    defers := hs1.defers
    wok := hs1.wok
    env := hs1.env
    hist := ⟨hs1.hist.sub, hk, hs1.hist.succ⟩
    rids := rlLt_lk h2
    ids := envLt_lk h1
    gv := fun n ch e he => by simp [lkG] at he }, kk⟩
/-- The end of a round that leaves names of blocks behind. -/
theorem s_loopPc {α : Type} {kn : Nat} {Inv : α → Prop} {T : α → St} {μ : α → Nat} {i : α} {env env' : Env} {F : Hp} {rs rs' : RL} {nx k : Nat} (j : α) (drop : List Nat) (slots : List Nat) (hj : Inv j) (hm : μ j < μ i) (hrs : forceL (Go.TR.dropR drop rs) = some rs') (henv : Go.TR.keepN env slots = some env') (hk : (T i).nx = k) (h1 : envLt k env' = true) (h2 : rlLt k rs') (h : (⟨env', F, rs', k⟩ : St) = T j) : loopPK N kn Inv T μ i KK .normal ⟨env, F, rs, nx⟩ := by
  subst hk
  exact fun c a w hk hs => VSf.clean drop slots hrs henv h1 h2 ⟨j, hj, h, hm⟩ c a w (Nat.le_trans hk (Nat.min_le_right _ _)) hs
theorem s_loopPr {α : Type} {kn : Nat} {Inv : α → Prop} {T : α → St} {μ : α → Nat} {i : α} (k : KK .ret st) : loopPK N kn Inv T μ i KK .ret st := VS.id k
theorem s_loopPe {α : Type} {kn : Nat} {Inv : α → Prop} {T : α → St} {μ : α → Nat} {i : α} {id : Nat} (k : KK (.exit id) st) : loopPK N kn Inv T μ i KK (.exit id) st := VS.id k
end
end Go.TR
