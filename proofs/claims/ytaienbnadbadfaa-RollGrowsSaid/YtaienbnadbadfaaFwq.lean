/-
A small program logic of our own for the model. Part q: blocks named anew.
-/
import Derived.Test.YtaienbnadbadfaaFwp
namespace Go.TR
open Go
section
variable {P : Program} {tb : Tb} {N : Nat} {KK : Exit → St → Prop} {st : St}
def renN (ρ : List (Nat × Nat)) (n : Nat) : Option Nat :=
  match ρ with
  | [] => none
  | (m, k) :: t => match Nat.beq n m with
    | true => some k
    | false => renN t n
def renE (ρ : List (Nat × Nat)) : EV → Option EV
  | .v x => some (.v x)
  | .loc id o => match renN ρ id with
    | some k => some (.loc k o)
    | none => none
  | .row id o n c => match renN ρ id with
    | some k => some (.row k o n c)
    | none => none
def renL (ρ : List (Nat × Nat)) : List EV → Option (List EV)
  | [] => some []
  | e :: t => match renE ρ e, renL ρ t with
    | some e', some t' => some (e' :: t')
    | _, _ => none
def renEnv (ρ : List (Nat × Nat)) (env : Env) : List Nat → Option Env
  | [] => some []
  | n :: t => match lk env n with
    | some e => (match renE ρ e, renEnv ρ env t with
      | some e', some l => some ((n, e') :: l)
      | _, _ => none)
    | none => none
/-- The same block under another name. -/
def renB (ρ : List (Nat × Nat)) (r r' : Blk) : Prop := r'.blk = r.blk ∧ r'.ty = r.ty ∧ r'.cap = r.cap ∧ ((r'.cells = r.cells ∧ ∀ e ∈ r.cells, ∃ x, e = .v x) ∨ renL ρ r.cells = some r'.cells)
def RenOK (ρ : List (Nat × Nat)) (rs : RL) : List (Nat × Nat) → RL → Prop
  | [], [] => True
  | (i, j) :: t, (j', r') :: rs' => j' = j ∧ (∃ r, lkR rs i = some r ∧ renB ρ r r') ∧ RenOK ρ rs t rs'
  | _, _ => False
theorem all_v (l : List Value) : ∀ e ∈ l.map EV.v, ∃ x, e = .v x := fun e he => by
  obtain ⟨x, _, rfl⟩ := List.mem_map.1 he
  exact ⟨x, rfl⟩
theorem all_vf {α : Type} (f : α → Value) (l : List α) : ∀ e ∈ l.map fun a => EV.v (f a), ∃ x, e = .v x := fun e he => by
  obtain ⟨x, _, rfl⟩ := List.mem_map.1 he
  exact ⟨_, rfl⟩
theorem RenOK.lk {ρ : List (Nat × Nat)} {rs : RL} : ∀ {t : List (Nat × Nat)} {rs' : RL}, RenOK ρ rs t rs' → ∀ j r', lkR rs' j = some r' → ∃ i r, (i, j) ∈ t ∧ lkR rs i = some r ∧ renB ρ r r'
  | [], [], _, j, r', h => by simp [lkR] at h
  | (i, j0) :: t, (j1, r1) :: rs', h, j, r', hr => by
    obtain ⟨rfl, ⟨r, h1, h2⟩, h3⟩ := h
    rw [lkR_cons] at hr
    split at hr
    · rename_i hj
      simp only [Option.some.injEq] at hr
      subst hj hr
      exact ⟨i, r, List.mem_cons_self, h1, h2⟩
    · obtain ⟨i', r2, g1, g2⟩ := h3.lk j r' hr
      exact ⟨i', r2, List.mem_cons_of_mem _ g1, g2⟩
  | [], _ :: _, h, _, _, _ => h.elim
  | _ :: _, [], h, _, _, _ => h.elim
def fstsB : List (Nat × Nat) → List Nat → Bool
  | [], _ => true
  | (i, _) :: t, seen => !(seen.contains i) && fstsB t (i :: seen)
def sndsB : List (Nat × Nat) → List Nat → Bool
  | [], _ => true
  | (_, j) :: t, seen => !(seen.contains j) && sndsB t (j :: seen)
theorem fsts_nd : ∀ {l : List (Nat × Nat)} {seen : List Nat}, fstsB l seen = true → (l.map (·.1)).Nodup ∧ ∀ x ∈ l, x.1 ∉ seen
  | [], _, _ => ⟨by simp, by simp⟩
  | (i, j) :: t, seen, h => by
    simp only [fstsB, Bool.and_eq_true, Bool.not_eq_true', List.contains_eq_mem, decide_eq_false_iff_not] at h
    obtain ⟨h1, h2⟩ := fsts_nd h.2
    refine ⟨?_, fun x hx => ?_⟩
    · simp only [List.map_cons, List.nodup_cons]
      refine ⟨fun hm => ?_, h1⟩
      obtain ⟨y, hy, e⟩ := List.mem_map.1 hm
      exact h2 y hy (by rw [e]; exact List.mem_cons_self)
    · rcases List.mem_cons.1 hx with rfl | hx
      · exact h.1
      · exact fun hs => h2 x hx (List.mem_cons_of_mem _ hs)
theorem snds_nd : ∀ {l : List (Nat × Nat)} {seen : List Nat}, sndsB l seen = true → (l.map (·.2)).Nodup ∧ ∀ x ∈ l, x.2 ∉ seen
  | [], _, _ => ⟨by simp, by simp⟩
  | (i, j) :: t, seen, h => by
    simp only [sndsB, Bool.and_eq_true, Bool.not_eq_true', List.contains_eq_mem, decide_eq_false_iff_not] at h
    obtain ⟨h1, h2⟩ := snds_nd h.2
    refine ⟨?_, fun x hx => ?_⟩
    · simp only [List.map_cons, List.nodup_cons]
      refine ⟨fun hm => ?_, h1⟩
      obtain ⟨y, hy, e⟩ := List.mem_map.1 hm
      exact h2 y hy (by rw [e]; exact List.mem_cons_self)
    · rcases List.mem_cons.1 hx with rfl | hx
      · exact h.1
      · exact fun hs => h2 x hx (List.mem_cons_of_mem _ hs)
theorem renN_mem {ρ : List (Nat × Nat)} {n k : Nat} (h : renN ρ n = some k) : (n, k) ∈ ρ := by
  induction ρ with
  | nil => simp [renN] at h
  | cons p t ih =>
    obtain ⟨m, q⟩ := p
    simp only [renN] at h
    split at h
    · rename_i hb
      simp only [Option.some.injEq] at h
      rw [Nat.eq_of_beq_eq_true hb, h]
      exact List.mem_cons_self
    · exact List.mem_cons_of_mem _ (ih h)
theorem nodup_fst {l : List (Nat × Nat)} (h : (l.map (·.1)).Nodup) {i j j' : Nat} (h1 : (i, j) ∈ l) (h2 : (i, j') ∈ l) : j = j' := by
  induction l with
  | nil => simp at h1
  | cons p t ih =>
    simp only [List.map_cons, List.nodup_cons] at h
    rcases List.mem_cons.1 h1 with e1 | h1 <;> rcases List.mem_cons.1 h2 with e2 | h2
    · rw [← e2] at e1; cases e1; rfl
    · exact absurd (List.mem_map.2 ⟨_, h2, by rw [← e1]⟩) h.1
    · exact absurd (List.mem_map.2 ⟨_, h1, by rw [← e2]⟩) h.1
    · exact ih h.2 h1 h2
theorem nodup_snd {l : List (Nat × Nat)} (h : (l.map (·.2)).Nodup) {i i' j : Nat} (h1 : (i, j) ∈ l) (h2 : (i', j) ∈ l) : i = i' := by
  induction l with
  | nil => simp at h1
  | cons p t ih =>
    simp only [List.map_cons, List.nodup_cons] at h
    rcases List.mem_cons.1 h1 with e1 | h1 <;> rcases List.mem_cons.1 h2 with e2 | h2
    · rw [← e2] at e1; cases e1; rfl
    · exact absurd (List.mem_map.2 ⟨_, h2, by rw [← e1]⟩) h.1
    · exact absurd (List.mem_map.2 ⟨_, h1, by rw [← e2]⟩) h.1
    · exact ih h.2 h1 h2
/-- New names: as they were, or none that stood when the code began. -/
def newB (k nx : Nat) : List (Nat × Nat) → Bool
  | [] => true
  | (i, j) :: t => Nat.blt j nx && (Nat.beq i j || Nat.ble k j) && newB k nx t
theorem newB_mem {k nx : Nat} : ∀ {l : List (Nat × Nat)}, newB k nx l = true → ∀ i j, (i, j) ∈ l → j < nx ∧ (i = j ∨ k ≤ j)
  | [], _, i, j, h => by simp at h
  | (a, b) :: t, h, i, j, hm => by
    simp only [newB, Bool.and_eq_true, Bool.or_eq_true, Nat.blt_eq, Nat.beq_eq, Nat.ble_eq] at h
    rcases List.mem_cons.1 hm with e | hm
    · cases e; exact h.1
    · exact newB_mem h.2 i j hm
theorem ren_val {ρ : List (Nat × Nat)} {rs rs' : RL} (hnd : (ρ.map (·.2)).Nodup) (h : RenOK ρ rs ρ rs') {e e' : EV} (he : renE ρ e = some e') {x : Value} (hx : e'.val rs' = some x) : e.val rs = some x := by
  cases e with
  | v y => simp only [renE, Option.some.injEq] at he; subst he; exact hx
  | loc id o =>
    simp only [renE] at he
    split at he
    · rename_i k hk
      simp only [Option.some.injEq] at he
      subst he
      simp only [EV.val] at hx ⊢
      cases hr : lkR rs' k with
      | none => simp [hr] at hx
      | some r' =>
        obtain ⟨i, r, h1, h2, h3, _⟩ := h.lk k r' hr
        have : i = id := nodup_snd hnd h1 (renN_mem hk)
        subst this
        rw [hr] at hx
        rw [h2]
        simp only [h3] at hx ⊢
        exact hx
    · cases he
  | row id o n c =>
    simp only [renE] at he
    split at he
    · rename_i k hk
      simp only [Option.some.injEq] at he
      subst he
      simp only [EV.val] at hx ⊢
      cases hr : lkR rs' k with
      | none => simp [hr] at hx
      | some r' =>
        obtain ⟨i, r, h1, h2, h3, _⟩ := h.lk k r' hr
        have : i = id := nodup_snd hnd h1 (renN_mem hk)
        subst this
        rw [hr] at hx
        rw [h2]
        simp only [h3] at hx ⊢
        exact hx
    · cases he
theorem renL_get {ρ : List (Nat × Nat)} : ∀ {l l' : List EV}, renL ρ l = some l' → l'.length = l.length ∧ ∀ (j : Nat) (e' : EV), l'[j]? = some e' → ∃ e, l[j]? = some e ∧ renE ρ e = some e'
  | [], l', h => by simp only [renL, Option.some.injEq] at h; subst h; exact ⟨rfl, by simp⟩
  | e :: t, l', h => by
    simp only [renL] at h
    split at h
    · rename_i e1 t1 h1 h2
      simp only [Option.some.injEq] at h
      subst h
      obtain ⟨g1, g2⟩ := renL_get h2
      refine ⟨by simp [g1], fun j e' hj => ?_⟩
      cases j with
      | zero => simp at hj; subst hj; exact ⟨e, rfl, h1⟩
      | succ j => simpa using g2 j e' (by simpa using hj)
    · cases h
theorem renEnv_lk {ρ : List (Nat × Nat)} {env : Env} : ∀ {slots : List Nat} {env' : Env}, renEnv ρ env slots = some env' → ∀ n e', lk env' n = some e' → ∃ e, lk env n = some e ∧ renE ρ e = some e'
  | [], env', h, n, e', hn => by simp only [renEnv, Option.some.injEq] at h; subst h; simp [lk] at hn
  | s :: t, env', h, n, e', hn => by
    simp only [renEnv] at h
    split at h
    · rename_i e he
      split at h
      · rename_i e1 l h1 h2
        simp only [Option.some.injEq] at h
        subst h
        rw [lk_cons] at hn
        split at hn
        · rename_i hns
          simp only [Option.some.injEq] at hn
          subst hns hn
          exact ⟨e, he, h1⟩
        · exact renEnv_lk h2 n e' hn
      · cases h
    · cases h
theorem renE_lt {ρ : List (Nat × Nat)} {nx : Nat} (hb : ∀ i j, (i, j) ∈ ρ → j < nx) {e e' : EV} (h : renE ρ e = some e') : e'.lt nx := by
  cases e with
  | v y => simp only [renE, Option.some.injEq] at h; subst h; trivial
  | loc id o =>
    simp only [renE] at h
    split at h
    · rename_i k hk
      simp only [Option.some.injEq] at h
      subst h
      exact hb _ _ (renN_mem hk)
    · cases h
  | row id o n c =>
    simp only [renE] at h
    split at h
    · rename_i k hk
      simp only [Option.some.injEq] at h
      subst h
      exact hb _ _ (renN_mem hk)
    · cases h
theorem ren_sat {c : Ctx} {env env' : Env} {F : Hp} {rs rs' : RL} {nx nx' k : Nat} {a : Act} {w : World} (ρ : List (Nat × Nat)) (slots : List Nat) (hk : c.nx0 ≤ k) (hs : GSat c N [] ⟨env, F, rs, nx⟩ a w) (hr : RenOK ρ rs ρ rs') (henv : renEnv ρ env slots = some env')
    (h1 : fstsB ρ [] = true) (h2 : sndsB ρ [] = true) (h3 : newB k nx' ρ = true) (h4 : k ≤ nx') : GSat c N [] ⟨env', F, rs', nx'⟩ a w := by
  have nd1 := (fsts_nd h1).1
  have nd2 := (snds_nd h2).1
  have hb := newB_mem h3
  have hval : ∀ e e' x, renE ρ e = some e' → e'.val rs' = some x → e.val rs = some x := fun e e' x h hx => ren_val nd2 hr h hx
  exact {
    size := hs.size
    defers := hs.defers
    wok := {
      le := hs.wok.le
      own := {
        own := fun id r' hr' => by
          obtain ⟨i, r, g1, g2, b1, b2, b3, b4⟩ := hr.lk id r' hr'
          have ho := hs.wok.own.own i r g2
          rw [b1]
          cases hbk : r.blk with
          | none =>
            rw [hbk] at ho
            refine ⟨?_, by rw [b3]; exact ho.2⟩
            rcases b4 with ⟨b4, _⟩ | b4
            · rw [b4]; exact ho.1
            · have := (renL_get b4).1
              rw [ho.1] at this
              exact List.eq_nil_of_length_eq_zero this
          | some b =>
            rw [hbk] at ho
            obtain ⟨o1, o2, cur, o3, o4, o5⟩ := ho
            refine ⟨o1, ?_, cur, by rw [b2]; exact o3, by rw [b3]; exact o4, fun j ev x hj hx => ?_⟩
            · rw [b3]
              rcases b4 with ⟨b4, _⟩ | b4
              · rw [b4]; exact o2
              · rw [(renL_get b4).1]; exact o2
            · rcases b4 with ⟨b4, b5⟩ | b4
              · rw [b4] at hj
                obtain ⟨y, rfl⟩ := b5 ev (List.mem_of_getElem? hj)
                exact o5 j _ x hj hx
              · obtain ⟨e, q1, q2⟩ := (renL_get b4).2 j ev hj
                exact o5 j e x q1 (hval e ev x q2 hx)
        apart := fun i j r s b hi hj hb1 hb2 => by
          obtain ⟨i', r0, g1, g2, b1, _⟩ := hr.lk i r hi
          obtain ⟨j', s0, g3, g4, c1, _⟩ := hr.lk j s hj
          have : i' = j' := hs.wok.own.apart i' j' r0 s0 b g2 g4 (by rw [← b1]; exact hb1) (by rw [← c1]; exact hb2)
          subst this
          exact nodup_fst nd1 g1 g3 }
      pres := hs.wok.pres
      new := fun id r' b hr' hb1 => by
        obtain ⟨i, r, g1, g2, b1, _⟩ := hr.lk id r' hr'
        exact hs.wok.new i r b g2 (by rw [← b1]; exact hb1)
      fnew := hs.wok.fnew }
    hist := {
      sub := hs.hist.sub
      nxle := Nat.le_trans hk h4
      succ := fun id r' hid hr' => by
        obtain ⟨i, r, g1, g2, b1, _⟩ := hr.lk id r' hr'
        rcases (hb i id g1).2 with rfl | hge
        · obtain ⟨r0, q1, q2⟩ := hs.hist.succ i r hid g2
          exact ⟨r0, q1, q2.trans b1.symm⟩
        · omega }
    rids := fun id r' hr' => by
      obtain ⟨i, r, g1, g2, b1, b2, b3, b4⟩ := hr.lk id r' hr'
      refine ⟨(hb i id g1).1, fun e he => ?_⟩
      rcases b4 with ⟨b4, b5⟩ | b4
      · rw [b4] at he
        obtain ⟨x, rfl⟩ := b5 e he
        trivial
      · obtain ⟨j, hj⟩ := List.getElem?_of_mem he
        obtain ⟨e0, _, q2⟩ := (renL_get b4).2 j e hj
        exact renE_lt (fun i j h => (hb i j h).1) q2
    ids := fun n e he => by
      obtain ⟨e0, _, q2⟩ := renEnv_lk henv n e he
      exact renE_lt (fun i j h => (hb i j h).1) q2
    env := fun n e x _ he hx => by
      obtain ⟨e0, q1, q2⟩ := renEnv_lk henv n e he
      exact hs.env n e0 x rfl q1 (hval e0 e x q2 hx)
    gv := fun n ch e he => by simp [lkG] at he }
/-- Blocks named anew, at the end of a loop's round. -/
theorem VSf.ren {k : Nat} {env env' : Env} {F : Hp} {rs rs' : RL} {nx nx' : Nat} {G : St → Prop} (ρ : List (Nat × Nat)) (slots : List Nat) (rs0 : RL) (hr : RenOK ρ rs ρ rs0) (hrs : rs0 = rs') (henv : renEnv ρ env slots = some env')
    (h1 : fstsB ρ [] = true) (h2 : sndsB ρ [] = true) (h3 : newB k nx' ρ = true) (h4 : Nat.ble k nx' = true) (kk : G ⟨env', F, rs', nx'⟩) : VSf k N [] ⟨env, F, rs, nx⟩ G := fun c a w hk hs => by
  subst hrs
  exact ⟨_, ren_sat ρ slots hk hs hr henv h1 h2 h3 (by simpa using h4), kk⟩
/-- .. anywhere: the new names are none that stood. -/
theorem VS.ren {env env' : Env} {F : Hp} {rs rs' : RL} {nx nx' : Nat} {G : St → Prop} (ρ : List (Nat × Nat)) (slots : List Nat) (rs0 : RL) (hr : RenOK ρ rs ρ rs0) (hrs : rs0 = rs') (henv : renEnv ρ env slots = some env')
    (h1 : fstsB ρ [] = true) (h2 : sndsB ρ [] = true) (h3 : newB nx nx' ρ = true) (h4 : Nat.ble nx nx' = true) (kk : G ⟨env', F, rs', nx'⟩) : VS N [] ⟨env, F, rs, nx⟩ G := fun c a w hs => by
  subst hrs
  exact ⟨_, ren_sat ρ slots hs.hist.nxle hs hr henv h1 h2 h3 (by simpa using h4), kk⟩
theorem VSf.trans {k : Nat} {G : St → Prop} {st : St} (h : VS N [] st (fun st' => VSf k N [] st' G)) : VSf k N [] st G := fun c a w hk hs => by
  obtain ⟨st', h1, h2⟩ := h c a w hs
  exact h2 c a w hk h1
theorem VSf.id {k : Nat} {G : St → Prop} {st : St} (h : G st) : VSf k N [] st G := fun _ _ _ _ hs => ⟨st, hs, h⟩
/-- The end of a round, with blocks named anew. -/
theorem s_loopPq {α : Type} {kn : Nat} {Inv : α → Prop} {T : α → St} {μ : α → Nat} {i : α} {env env' : Env} {F : Hp} {rs rs' : RL} {nx nx' : Nat} (j : α) (k : Nat) (ρ : List (Nat × Nat)) (slots : List Nat) (rs0 : RL) (hj : Inv j) (hm : μ j < μ i) (hk : min kn (T i).nx ≤ k) (hr : RenOK ρ rs ρ rs0) (hrs : rs0 = rs') (henv : renEnv ρ env slots = some env')
    (h1 : fstsB ρ [] = true) (h2 : sndsB ρ [] = true) (h3 : newB k nx' ρ = true) (h4 : Nat.ble k nx' = true) (h : (⟨env', F, rs', nx'⟩ : St) = T j) : loopPK N kn Inv T μ i KK .normal ⟨env, F, rs, nx⟩ := fun c a w hk' hs =>
  VSf.ren ρ slots rs0 hr hrs henv h1 h2 h3 h4 ⟨j, hj, h, hm⟩ c a w (Nat.le_trans hk' hk) hs
/-- The nil slice's name goes: what stood for it is the nil slice. -/
def nilE (id : Nat) : EV → EV
  | .v x => .v x
  | .loc i o => .loc i o
  | .row i o n c => match Nat.beq i id with
    | true => .v (.slice none n c)
    | false => .row i o n c
def nilN (id : Nat) : Env → Env
  | [] => []
  | (n, e) :: t => (n, nilE id e) :: nilN id t
theorem nilN_lk {id : Nat} : ∀ {env : Env} {n : Nat} {e' : EV}, lk (nilN id env) n = some e' → ∃ e, lk env n = some e ∧ nilE id e = e'
  | [], n, e', h => by simp [nilN, lk] at h
  | (m, e) :: t, n, e', h => by
    simp only [nilN] at h
    rw [lk_cons] at h ⊢
    split at h
    · rename_i hn
      simp only [Option.some.injEq] at h
      exact ⟨e, by rw [if_pos hn], h⟩
    · rename_i hn
      obtain ⟨e0, h1, h2⟩ := nilN_lk h
      exact ⟨e0, by rw [if_neg hn]; exact h1, h2⟩
theorem VS.nilval {env env' : Env} {F : Hp} {rs : RL} {nx : Nat} {G : St → Prop} (id : Nat) {cells : List EV} {ty : TypeId} {cap : Nat} (slots : List Nat) (hr : lkR rs id = some ⟨none, cells, ty, cap⟩) (henv : Go.TR.keepN (nilN id env) slots = some env') (k : VS N [] ⟨env', F, rs, nx⟩ G) : VS N [] ⟨env, F, rs, nx⟩ G := fun c a w hs => by
  have hv : ∀ e x, (nilE id e).val rs = some x → e.val rs = some x := fun e x hx => by
    cases e with
    | v y => exact hx
    | loc i o => exact hx
    | row i o n cc =>
      simp only [nilE] at hx
      split at hx
      · rename_i hb
        have := Nat.eq_of_beq_eq_true hb
        subst this
        simp only [EV.val, hr, Option.map_none]
        exact hx
      · exact hx
  have hlt : ∀ e : EV, e.lt nx → (nilE id e).lt nx := fun e he => by
    cases e with
    | v y => trivial
    | loc i o => exact he
    | row i o n cc =>
      simp only [nilE]
      split
      · trivial
      · exact he
  refine k c a w (keepN_sat henv ?_)
  exact {
    size := hs.size
    defers := hs.defers
    wok := hs.wok
    hist := hs.hist
    rids := hs.rids
    ids := fun n e he => by
      obtain ⟨e0, h1, rfl⟩ := nilN_lk he
      exact hlt e0 (hs.ids n e0 h1)
    env := fun n e x _ he hx => by
      obtain ⟨e0, h1, rfl⟩ := nilN_lk he
      exact hs.env n e0 x rfl h1 (hv e0 x hx)
    gv := fun n ch e he => by simp [lkG] at he }
/-- What is known of a nil row: it has no cells. -/
theorem VS.nilcells {env : Env} {F : Hp} {rs : RL} {nx : Nat} {G : St → Prop} {id : Nat} {cells : List EV} {ty : TypeId} {cap : Nat} (hr : lkR rs id = some ⟨none, cells, ty, cap⟩) (k : cells = [] ∧ cap = 0 → VS N [] ⟨env, F, rs, nx⟩ G) : VS N [] ⟨env, F, rs, nx⟩ G := fun c a w hs =>
  k (hs.wok.own.own id _ hr) c a w hs
/-- A slice of the call's own that is handed back: frozen, or nil. -/
theorem take_all {α : Type} (l : List α) (n : Nat) (h : l.length ≤ n) : l.take n = l := List.take_of_length_le h
end
end Go.TR
