/-
A small program logic of our own for the model. Part m: regions that draw an order and whose operations make memory: an operation that leaves memory as it is may be taken first. Nothing here speaks of one program.
-/
import Derived.Test.YtaienbnadbadfaaFwj
import Derived.StillTail
namespace Go.TR
section
variable {P : Program} {ops : Array Oper} {md : Region.Mode} {R : Act → World → Prop}

/-- Only the ordinary way out. -/
def Qn (R : Act → World → Prop) : Exit → Act → World → Prop := fun e a w => e = .normal ∧ R a w
theorem Qn.out : ¬ LetsOut (Qn R) := fun h => by
  have := h
  unfold LetsOut at this
  simp [Qn] at this

/-- Every order. S: what may be leant on from here on; T: the worlds that fit what is known behind an operation. -/
def wpAnyT (P : Program) (md : Region.Mode) (ops : Array Oper) (R : Act → World → Prop) : Nat → Array Bool → (World → Prop) → Act → World → Prop
  | 0, done, _, a, w => Region.ready md ops done = [] ∧ R a w
  | f + 1, done, S, a, w => (Region.ready md ops done = [] → R a w) ∧
      ∀ i ∈ Region.ready md ops done, wpOp P ops (Qn R) i (fun a' w' => ∃ S' T' : World → Prop, (∀ x, S' x → S x) ∧ (∀ x, T' x → S' x) ∧ (∀ x y, T' x → Pres [] x y → T' y) ∧ T' w' ∧ ∀ x, T' x → wpAnyT P md ops R f (done.setIfInBounds i true) S' a' x) a w

theorem wp_exits {o : Oper} {a : Act} {w : World} {K : Act → World → Prop} {Q : Exit → Act → World → Prop} (h : o.wp P a w K (Qn R)) : o.wp P a w K Q := by
  unfold Oper.wp at *
  generalize (execOp a.eval o).run P w = r at *
  cases r with
  | ok n w' =>
    cases n <;> simp only [Oper.upon] at h ⊢ <;>
      first
        | exact h
        | exact Calls.mono h (fun e w'' he => by
            cases e
            · exact he
            · exact absurd he.1 (by simp)
            · exact absurd he Qn.out)
  | halt x w' => cases x <;> simp only [Oper.upon] at h ⊢ <;> first | exact h | exact absurd h.1 (by simp)

theorem wpAnyT.any {Q : Exit → Act → World → Prop} (hQ : ∀ a w, R a w → Q .normal a w) : ∀ (f : Nat) (done : Array Bool) (S : World → Prop) (a : Act) (w : World), wpAnyT P md ops R f done S a w → wpAny P md ops Q f done a w := by
  intro f
  induction f with
  | zero => intro done S a w h; exact ⟨h.1, hQ _ _ h.2⟩
  | succ f ih =>
    intro done S a w h
    refine ⟨fun h0 => hQ _ _ (h.1 h0), fun i hi => ?_⟩
    have h1 := h.2 i hi
    have go : ∀ {a' w'}, (∃ S' T' : World → Prop, (∀ x, S' x → S x) ∧ (∀ x, T' x → S' x) ∧ (∀ x y, T' x → Pres [] x y → T' y) ∧ T' w' ∧ ∀ x, T' x → wpAnyT P md ops R f (done.setIfInBounds i true) S' a' x) → wpAny P md ops Q f (done.setIfInBounds i true) a' w' := fun {a' w'} ⟨S', T', _, _, _, h4, h5⟩ => ih _ _ _ _ (h5 _ h4)
    unfold wpOp at h1 ⊢
    split
    · rename_i ho
      rw [ho] at h1
      exact go h1
    · rename_i o ho
      rw [ho] at h1
      simp only at h1
      split
      · rename_i hw
        rw [if_pos hw] at h1
        rcases h1 with h1 | h1
        · exact .inl (Oper.wp_mono (fun a' w' h' => go h') (wp_exits h1))
        · exact absurd h1.2 Qn.out
      · rename_i hw
        rw [if_neg hw] at h1
        exact go h1

/-- Wherever S holds the operation gives v, and turns no old block; or it is not wanted. -/
def YieldsT (P : Program) (ops : Array Oper) (S : World → Prop) (o : Oper) (v : Value) (a : Act) : Prop :=
  if Region.wanted o (yielded ops a.tmps) then ∀ w, S w → o.quietAt P a (Pres [] w) w v else v = undef
theorem quietAt_same {o : Oper} {v : Value} {a a' : Act} {C : World → Prop} {w : World} (h : o.quietAt P a C w v) (he : execOp a'.eval o = execOp a.eval o) : o.quietAt P a' C w v := by
  unfold Oper.quietAt at *
  rw [he]
  exact h
theorem quietAt_mono {o : Oper} {v : Value} {a : Act} {C C' : World → Prop} {w : World} (h : o.quietAt P a C w v) (hC : ∀ x, C x → C' x) : o.quietAt P a C' w v := by
  unfold Oper.quietAt at *
  generalize (execOp a.eval o).run P w = r at *
  unfold Oper.quietUpon at *
  split at h
  all_goals first
    | exact h
    | exact ⟨h.1, h.2.mono fun e w2 he => ⟨he.1, hC _ he.2⟩⟩
theorem YieldsT.of_same {S : World → Prop} {o : Oper} {v : Value} {a a' : Act} (hy : YieldsT P ops S o v a) (he : execOp a'.eval o = execOp a.eval o) (hw : Region.wanted o (yielded ops a'.tmps) = Region.wanted o (yielded ops a.tmps)) : YieldsT P ops S o v a' := by
  unfold YieldsT at *
  rw [hw]
  split
  · rename_i h
    rw [if_pos h] at hy
    exact fun w hs => quietAt_same (hy w hs) he
  · rename_i h
    rw [if_neg h] at hy
    exact hy
theorem YieldsT.mono {S S' : World → Prop} {o : Oper} {v : Value} {a : Act} (hy : YieldsT P ops S o v a) (h : ∀ x, S' x → S x) : YieldsT P ops S' o v a := by
  unfold YieldsT at *
  split
  · rename_i hw
    rw [if_pos hw] at hy
    exact fun w hs => hy w (h w hs)
  · rename_i hw
    rw [if_neg hw] at hy
    exact hy

theorem wp_put {oi oj : Oper} {v : Value} {a : Act} {w : World} {K : Act → World → Prop} (he : execOp (a.put oi.dst v).eval oj = execOp a.eval oj) (hd : ∀ (b : Act) (u : Value), (b.put oi.dst v).put oj.dst u = (b.put oj.dst u).put oi.dst v)
    (h : oj.wp P (a.put oi.dst v) w K (Qn R)) : oj.wp P a w (fun a' w' => (∃ d u, a' = ({ a with defers := d } : Act).put oj.dst u) ∧ K (a'.put oi.dst v) w') (Qn R) := by
  unfold Oper.wp at *
  rw [he] at h
  generalize (execOp a.eval oj).run P w = r at *
  cases r with
  | ok n w' =>
    cases n with
    | value u => exact ⟨⟨a.defers, u, rfl⟩, by rw [← hd]; exact h⟩
    | skip => exact ⟨⟨a.defers, undef, rfl⟩, by rw [← hd]; exact h⟩
    | defer d =>
      simp only [Oper.upon] at h ⊢
      refine ⟨⟨d :: a.defers, undef, rfl⟩, ?_⟩
      rw [← hd]
      have e : ({ a.put oi.dst v with defers := d :: (a.put oi.dst v).defers } : Act) = ({ a with defers := d :: a.defers } : Act).put oi.dst v := by cases oi.dst <;> rfl
      rw [e] at h
      exact h
    | enter f args =>
      simp only [Oper.upon] at h ⊢
      exact Calls.mono h (fun e w'' he => by
            cases e
            · exact ⟨⟨a.defers, _, rfl⟩, by rw [← hd]; exact he⟩
            · exact absurd he.1 (by simp)
            · exact absurd he Qn.out)
    | row r args =>
      simp only [Oper.upon] at h ⊢
      exact Rows.mono h (fun u w'' he => ⟨⟨a.defers, u, rfl⟩, by rw [← hd]; exact he⟩)
    | _ => simp only [Oper.upon] at h
  | halt x w' => cases x <;> simp only [Oper.upon] at h ⊢ <;> first | exact h.elim | exact absurd h.1 (by simp)

/-- What may come first may be taken first. -/
theorem wpAnyT_first {i : Nat} {oi : Oper} {v : Value} (hi : ops[i]? = some oi) (hsel : ∀ (j : Nat) (o : Oper) cs b, ops[j]? = some o → o.op ≠ .select cs b) :
    ∀ (f : Nat) (done : Array Bool) (S T : World → Prop) (a : Act), (∀ x, T x → S x) → (∀ x y, T x → Pres [] x y → T y) →
      (∀ j oj, ops[j]? = some oj → j ≠ i → done.getD j true = false → (∀ e ∈ oj.after, Region.binds md e = true → e.on ≠ i) → oi.apart ops oj = true) →
      i ∈ Region.ready md ops done → YieldsT P ops S oi v a → (∀ x, T x → wpAnyT P md ops R f (done.setIfInBounds i true) S (a.put oi.dst v) x) → ∀ w, T w → wpAnyT P md ops R (f + 1) done S a w := by
  have self : ∀ (f : Nat) (done : Array Bool) (S T : World → Prop) (a : Act), (∀ x, T x → S x) → (∀ x y, T x → Pres [] x y → T y) → YieldsT P ops S oi v a → (∀ x, T x → wpAnyT P md ops R f (done.setIfInBounds i true) S (a.put oi.dst v) x) → ∀ w, T w →
      wpOp P ops (Qn R) i (fun a' w' => ∃ S' T' : World → Prop, (∀ x, S' x → S x) ∧ (∀ x, T' x → S' x) ∧ (∀ x y, T' x → Pres [] x y → T' y) ∧ T' w' ∧ ∀ x, T' x → wpAnyT P md ops R f (done.setIfInBounds i true) S' a' x) a w := fun f done S T a hTS hTP hy H w hT => by
    unfold wpOp
    simp only [hi]
    unfold YieldsT at hy
    split
    · rename_i hw
      rw [if_pos hw] at hy
      left
      exact Oper.wp_of_quiet (C := Pres [] w) (K := fun a' => a' = a.put oi.dst v) (Pres.refl [] w) (fun a' w' hw' e => by subst e; exact ⟨S, T, fun _ h => h, hTS, hTP, hTP _ _ hT hw', H⟩) ⟨v, fun x hx => quietAt_mono (hy x (hTS _ (hTP _ _ hT hx))) (fun y hy => hx.trans hy), rfl⟩
    · rename_i hw
      rw [if_neg hw] at hy
      subst hy
      exact ⟨S, T, fun _ h => h, hTS, hTP, hT, H⟩
  intro f
  induction f with
  | zero =>
    intro done S T a hTS hTP _ hr hy H w hT
    refine ⟨fun h => (by rw [h] at hr; cases hr), fun j hj => ?_⟩
    by_cases hji : j = i
    · subst hji; exact self 0 done S T a hTS hTP hy H w hT
    · have := ready_mono hj hji
      rw [(H w hT).1] at this
      cases this
  | succ f ih =>
    intro done S T a hTS hTP hfree hr hy H w hT
    have hun := (mem_ready.1 hr).1
    refine ⟨fun h => (by rw [h] at hr; cases hr), fun j hj => ?_⟩
    by_cases hji : j = i
    · subst hji; exact self (f + 1) done S T a hTS hTP hy H w hT
    · obtain ⟨hjun, oj, hoj, hall⟩ := mem_ready.1 hj
      have hnot : ∀ e ∈ oj.after, Region.binds md e = true → e.on ≠ i := fun e he hb heq => by
        have h1 := hall e he hb
        rw [heq, getD_both hun] at h1
        cases h1
      obtain ⟨h1, h2, h3⟩ := Oper.apart_spec (hfree j oj hoj hji hjun hnot)
      have hsi : ∀ cs b, oi.op ≠ .select cs b := fun cs b => hsel i oi cs b hi
      have hsj : ∀ cs b, oj.op ≠ .select cs b := fun cs b => hsel j oj cs b hoj
      have keep : ∀ (a : Act), YieldsT P ops S oi v a → ∀ u, YieldsT P ops S oi v (a.put oj.dst u) := fun a hy u =>
        hy.of_same (execOp_put oi hsi a oj.dst u h3) (wanted_put oi a oj.dst u h3)
      have keepd : ∀ (a : Act) d, YieldsT P ops S oi v a → YieldsT P ops S oi v { a with defers := d } := fun a d hy => hy
      have step : ∀ a' w', YieldsT P ops S oi v a' → (∃ S' T' : World → Prop, (∀ x, S' x → S x) ∧ (∀ x, T' x → S' x) ∧ (∀ x y, T' x → Pres [] x y → T' y) ∧ T' w' ∧ ∀ x, T' x → wpAnyT P md ops R f ((done.setIfInBounds i true).setIfInBounds j true) S' (a'.put oi.dst v) x) →
          ∃ S' T' : World → Prop, (∀ x, S' x → S x) ∧ (∀ x, T' x → S' x) ∧ (∀ x y, T' x → Pres [] x y → T' y) ∧ T' w' ∧ ∀ x, T' x → wpAnyT P md ops R (f + 1) (done.setIfInBounds j true) S' a' x := fun a' w' hy' ⟨S', T', k1, k2, k3, k4, k5⟩ => by
        refine ⟨S', T', k1, k2, k3, k4, ih (done.setIfInBounds j true) S' T' a' k2 k3 (fun k ok hk hki hu hno => hfree k ok hk hki ?_ hno) (ready_mono hr (Ne.symm hji)) (hy'.mono k1) (fun x hx => ?_)⟩
        · by_cases hjk : j = k
          · subst hjk; exact hjun
          · rw [getD_set_ne true hjk] at hu; exact hu
        · rw [Array.setIfInBounds_comm _ _ hji]
          exact k5 x hx
      have h0 := (H w hT).2 j (ready_mono hj hji)
      unfold wpOp at h0 ⊢
      simp only [hoj] at h0 ⊢
      rw [wanted_put oj a oi.dst v h1] at h0
      split
      · rename_i hw
        rw [if_pos hw] at h0
        rcases h0 with h0 | h0
        · left
          refine Oper.wp_mono (fun a' w' h' => ?_) (wp_put (execOp_put oj hsj a oi.dst v h1) (fun b u => Act.put_comm b v u h2) h0)
          obtain ⟨⟨d, u, rfl⟩, h''⟩ := h'
          exact step _ _ (keep _ (keepd _ _ hy) u) h''
        · exact absurd h0.2 Qn.out
      · rename_i hw
        rw [if_neg hw] at h0
        refine step _ _ (keep _ hy _) ?_
        rw [← Act.put_comm a v undef h2]
        exact h0
end

/-! ### The evaluator's schedules -/
section
variable {P : Program} {tb : Tb} {N : Nat}
def msk (kept : List Nat) (st : St) : St := ⟨st.env, st.F, mask kept st.rs, st.nx⟩
theorem lkR_mask (kept : List Nat) (rs : RL) (id : Nat) : lkR (mask kept rs) id = (lkR rs id).map fun r => if kept.contains id then r else ⟨r.blk, [], r.ty, r.cap⟩ := by
  induction rs with
  | nil => rfl
  | cons p rs ih =>
    obtain ⟨m, ⟨b, cells, ty, cap⟩⟩ := p
    simp only [mask]
    split
    · rename_i hc
      rw [lkR_cons, lkR_cons, ih]
      by_cases h : id = m
      · subst h; simp only [if_true, Option.map_some, hc]
      · simp only [if_neg h]
    · rename_i hc
      rw [lkR_cons, lkR_cons, ih]
      by_cases h : id = m
      · subst h; simp only [if_true, Option.map_some, hc]; rfl
      · simp only [if_neg h]
theorem val_mask (kept : List Nat) (rs : RL) (e : EV) : e.val (mask kept rs) = e.val rs := by
  cases e with
  | v x => rfl
  | loc id o =>
    simp only [EV.val, lkR_mask]
    cases lkR rs id with
    | none => rfl
    | some r => simp only [Option.map_some]; cases kept.contains id <;> rfl
  | row id o n c =>
    simp only [EV.val, lkR_mask]
    cases lkR rs id with
    | none => rfl
    | some r => simp only [Option.map_some]; cases kept.contains id <;> rfl
theorem mask_sub {kept : List Nat} {rs : RL} {id : Nat} {r : Blk} (h : lkR (mask kept rs) id = some r) : ∃ r0, lkR rs id = some r0 ∧ r.blk = r0.blk ∧ r.ty = r0.ty ∧ r.cap = r0.cap ∧ (r.cells = r0.cells ∨ r.cells = []) ∧ (r.cells ≠ [] → id ∈ kept ∧ r = r0) := by
  rw [lkR_mask, Option.map_eq_some_iff] at h
  obtain ⟨r0, h1, h2⟩ := h
  refine ⟨r0, h1, ?_⟩
  subst h2
  split
  · rename_i hc; exact ⟨rfl, rfl, rfl, .inl rfl, fun _ => ⟨by simpa using hc, rfl⟩⟩
  · exact ⟨rfl, rfl, rfl, .inr rfl, fun h => absurd rfl h⟩
theorem mask_sat {c : Ctx} {g : GEnv} {st : St} {a : Act} {w : World} (h : GSat c N g st a w) (kept : List Nat) : GSat c N g (msk kept st) a w where
  size := h.size
  defers := h.defers
  wok := {
    le := h.wok.le
    own := {
      own := fun id r hr => by
        obtain ⟨r0, h1, h2, h3, h4, h5, _⟩ := mask_sub hr
        have hv := fun e => val_mask kept st.rs e
        have h6 := h.wok.own.own id r0 h1
        obtain ⟨rb, rc, rt, rcap⟩ := r
        simp only at h2 h3 h4 h5
        subst h2 h3 h4
        cases hb : r0.blk with
        | none =>
          rw [hb] at h6
          rcases h5 with rfl | rfl
          · exact h6
          · exact ⟨rfl, h6.2⟩
        | some b =>
          rw [hb] at h6
          obtain ⟨g1, g2, cur, g3, g4, g5⟩ := h6
          rcases h5 with rfl | rfl
          · exact ⟨g1, g2, cur, g3, g4, fun j ev x hj hx => g5 j ev x hj (by rw [← hv ev]; exact hx)⟩
          · exact ⟨g1, Nat.zero_le _, cur, g3, g4, fun j ev x hj => by simp at hj⟩
      apart := fun i j r s b hi hj hr hs => by
        obtain ⟨r0, h1, h2, _⟩ := mask_sub hi
        obtain ⟨s0, h3, h4, _⟩ := mask_sub hj
        exact h.wok.own.apart i j r0 s0 b h1 h3 (h2 ▸ hr) (h4 ▸ hs) }
    pres := h.wok.pres
    new := fun id r b hr hb => by
      obtain ⟨r0, h1, h2, _⟩ := mask_sub hr
      exact h.wok.new id r0 b h1 (h2 ▸ hb)
    fnew := h.wok.fnew }
  hist := {
    sub := h.hist.sub
    nxle := h.hist.nxle
    succ := fun id r hid hr => by
      obtain ⟨r0, h1, h2, _⟩ := mask_sub hr
      obtain ⟨r1, h3, h4⟩ := h.hist.succ id r0 hid h1
      exact ⟨r1, h3, h4.trans h2.symm⟩ }
  rids := fun id r hr => by
    obtain ⟨r0, h1, _, _, _, h5, _⟩ := mask_sub hr
    obtain ⟨h6, h7⟩ := h.rids id r0 h1
    refine ⟨h6, fun e he => ?_⟩
    rcases h5 with h5 | h5
    · rw [h5] at he; exact h7 e he
    · rw [h5] at he; cases he
  ids := h.ids
  env := fun n e x hg he hx => h.env n e x hg he (by rw [← val_mask kept]; exact hx)
  gv := fun n ch e hg => by
    obtain ⟨h1, h2, h3, h4⟩ := h.gv n ch e hg
    exact ⟨fun hA => ⟨fun x hx => (h1 hA).1 x (by rw [← val_mask kept]; exact hx), (h1 hA).2⟩, h2, h3, h4⟩
/-- Back from the masked state. -/
theorem back_sat {c : Ctx} {g g' : GEnv} {env env' : Env} {F : Hp} {rs : RL} {nx : Nat} {kept : List Nat} {a a' : Act} {w : World} (h : GSat c N g ⟨env, F, rs, nx⟩ a w) (h' : GSat c N g' ⟨env', F, mask kept rs, nx⟩ a' w) : GSat c N g' ⟨env', F, rs, nx⟩ a' w where
  size := h'.size
  defers := h'.defers
  wok := h.wok
  hist := h.hist
  rids := h.rids
  ids := h'.ids
  env := fun n e x hg he hx => h'.env n e x hg he (by rw [val_mask]; exact hx)
  gv := fun n ch e hg => by
    obtain ⟨h1, h2, h3, h4⟩ := h'.gv n ch e hg
    exact ⟨fun hA => ⟨fun x hx => (h1 hA).1 x (by rw [val_mask]; exact hx), (h1 hA).2⟩, h2, h3, h4⟩
theorem sameV_mem {rs rs' : RL} : ∀ {l : List EV}, sameV rs rs' l → ∀ e ∈ l, e.val rs' = e.val rs
  | [], _, e, he => by cases he
  | x :: l, h, e, he => by
    rcases List.mem_cons.1 he with rfl | he
    · exact h.1
    · exact sameV_mem h.2 e he
theorem keptOK_mem {rs rs' : RL} : ∀ {kept : List Nat}, keptOK rs rs' kept → ∀ id ∈ kept, ∀ r, lkR rs id = some r → lkR rs' id = some r ∧ ∀ e ∈ r.cells, e.val rs' = e.val rs
  | [], _, id, hid, _, _ => by cases hid
  | k :: kept, h, id, hid, r, hr => by
    rcases List.mem_cons.1 hid with rfl | hid
    · have := h.1
      rw [hr] at this
      exact ⟨this.1, sameV_mem this.2⟩
    · exact keptOK_mem h.2 id hid r hr
/-- What may be leant on later may be leant on now. -/
theorem sw_mono {kept : List Nat} {st st' : St} (hF : st.F.sub st'.F) (hk : keptOK st.rs st'.rs kept) {x : World} (h : Sw (msk kept st') x) : Sw (msk kept st) x := by
  refine ⟨fun k o e => h.1 k o (hF k o e), fun id r b hr hb hne => ?_⟩
  obtain ⟨r0, h1, _, _, _, _, h6⟩ := mask_sub (kept := kept) (rs := st.rs) hr
  obtain ⟨hid, rfl⟩ := h6 hne
  obtain ⟨h2, h3⟩ := keptOK_mem hk id hid r h1
  have h4 : lkR (mask kept st'.rs) id = some r := by
    rw [lkR_mask, h2, Option.map_some, if_pos (by simpa using hid)]
  obtain ⟨cur, g1, g2⟩ := h.2 id r b h4 hb hne
  refine ⟨cur, g1, fun j ev u hj hu => g2 j ev u hj ?_⟩
  simp only [msk, val_mask] at hu ⊢
  rw [h3 ev (List.mem_of_getElem? hj)]
  exact hu
theorem wok_sw {c : Ctx} {kept : List Nat} {st : St} {x : World} (h : WOK c st.F st.rs x) : Sw (msk kept st) x := by
  refine ⟨h.le, fun id r b hr hb hne => ?_⟩
  obtain ⟨r0, h1, _, _, _, _, h6⟩ := mask_sub (kept := kept) (rs := st.rs) hr
  obtain ⟨hid, rfl⟩ := h6 hne
  have h2 := h.own.own id r h1
  rw [hb] at h2
  obtain ⟨_, _, cur, h3, _, h4⟩ := h2
  exact ⟨cur, h3, fun j ev u hj hu => h4 j ev u hj (by rw [← val_mask kept]; exact hu)⟩

theorem firsts_sound (htb : TbOK P tb) {c : Ctx} {ops : Array Oper} {kept : List Nat} {R : Act → World → Prop} (hsel : Region.noSelect ops = true) {KK : GEnv → St → Prop} {F : Hp} {rs : RL} {nx : Nat} {S : World → Prop} (hS : ∀ env x, S x → Sw ⟨env, F, mask kept rs, nx⟩ x) (hT : ∀ x, WOK c F rs x → S x) {f : Nat} :
    ∀ (is : List Nat) (l : List Oper) (done : Array Bool) (g : GEnv) (env : Env) (a : Act), (∀ x, WOK c F rs x → GSat c N g ⟨env, F, rs, nx⟩ a x) → firstsB .any ops done is = true → sel ops.toList is = some l → vcOps P tb N true ops.toList l KK g ⟨env, F, mask kept rs, nx⟩ →
      (∀ g' env' a', (∀ x, WOK c F rs x → GSat c N g' ⟨env', F, rs, nx⟩ a' x) → KK g' ⟨env', F, mask kept rs, nx⟩ → ∀ x, WOK c F rs x → wpAnyT P .any ops R f (setAll done is) S a' x) → ∀ x, WOK c F rs x → wpAnyT P .any ops R (f + is.length) done S a x := by
  intro is
  induction is with
  | nil =>
    intro l done g env a h _ hl hk H x hx
    simp only [sel, Option.some.injEq] at hl
    subst hl
    exact H g env a h hk x hx
  | cons i is ih =>
    intro l done g env a h hB hl hk H w hw
    simp only [sel] at hl
    split at hl
    · rename_i o l' ho hl'
      simp only [Option.some.injEq] at hl
      subst hl
      simp only [firstsB, Bool.and_eq_true] at hB
      obtain ⟨⟨hB1, hB2⟩, hB3⟩ := hB
      have ho' : ops[i]? = some o := by simpa using ho
      have hi' : i ∈ Region.ready .any ops done := by simpa using hB1
      have hm : GSat c N g ⟨env, F, mask kept rs, nx⟩ a w := mask_sat (h w hw) kept
      obtain ⟨v, g', st', hK, hF, hrs, hnx, h1, h2⟩ := quiet_step htb hm (o := o) hk
      obtain ⟨env', F', rs', nx'⟩ := st'
      simp only at hF hrs hnx
      subst hF hrs hnx
      obtain ⟨v', hv1, hv2⟩ : ∃ v', YieldsT P ops S o v' a ∧ GSat c N g' ⟨env', F', mask kept rs, nx'⟩ (a.put o.dst v') w := by
        by_cases hw : Region.wanted o (yielded ops a.tmps) = true
        · refine ⟨v, ?_, (h1 hw).2⟩
          unfold YieldsT
          rw [if_pos hw]
          exact fun x hx => (h1 hw).1 (Pres [] x) ⟨fun y hy => (rd_sw _).pres _ _ (hS env x hx) hy, fun y z hy hz => hy.trans hz⟩ x (Pres.refl [] x)
        · refine ⟨undef, ?_, h2 hw⟩
          unfold YieldsT
          rw [if_neg hw]
      have hs := back_sat (h w hw) hv2
      refine wpAnyT_first (R := R) ho' (Region.noSelect_spec hsel) (f + is.length) done S (fun x => WOK c F' rs x) a hT (fun x y hx hy => WOK.pres' hx hy) (Region.free_spec ho' hB2) hi' hv1 (fun x hx => ?_) w hw
      exact ih l' (done.setIfInBounds i true) g' env' _ (fun y hy => hs.world hy) hB3 hl' hK H x hx
    · simp at hl
theorem any_sound (htb : TbOK P tb) {c : Ctx} {ops : Array Oper} {kept : List Nat} {K : St → Prop} (hsel : Region.noSelect ops = true) : ∀ (m f : Nat) (done : Array Bool) (g : GEnv) (st : St) (a : Act) (w : World), GSat c N g st a w → vcAny P tb N ops kept K m f done g st →
    wpAnyT P .any ops (fun a w => ∃ st, Sat c N st a w ∧ K st) f done (Sw (msk kept st)) a w := by
  have stop : ∀ {g : GEnv} {st : St} {a : Act} {w : World}, GSat c N g st a w → VS N [] st K → ∃ st, Sat c N st a w ∧ K st := fun h hv => by
    obtain ⟨st', h1, h2⟩ := hv c _ _ h.drop
    exact ⟨st', h1, h2⟩
  intro m
  induction m with
  | zero => intro f done g st a w h hk; exact hk.elim
  | succ m ih =>
    intro f done g st a w h hk
    rcases hk with ⟨hr, hv⟩ | ⟨f', is, l, rfl, hB, hl, hk⟩ | ⟨f', rfl, hne, hk⟩
    · cases f with
      | zero => exact ⟨hr, stop h hv⟩
      | succ f => exact ⟨fun _ => stop h hv, fun i hi => by rw [hr] at hi; cases hi⟩
    · obtain ⟨env, F, rs, nx⟩ := st
      refine firsts_sound htb (kept := kept) hsel (S := Sw (msk kept ⟨env, F, rs, nx⟩)) (fun env' x hx => hx) (fun x hx => wok_sw (st := ⟨env, F, rs, nx⟩) hx) is l done g env a (fun x hx => h.world hx) hB hl hk (fun g' env' a' hs hk' x hx => ?_) w h.wok
      exact ih f' _ g' ⟨env', F, rs, nx⟩ a' x (hs x hx) hk'
    · refine ⟨fun h0 => absurd h0 hne, fun i hi => ?_⟩
      obtain ⟨o, ho, hk⟩ := hk i hi
      have key := plain_step htb h (ops := ops) (o := o) (Q := Qn (fun a w => ∃ st, Sat c N st a w ∧ K st)) (K' := fun a' w' => ∃ S' T' : World → Prop, (∀ x, S' x → Sw (msk kept st) x) ∧ (∀ x, T' x → S' x) ∧ (∀ x y, T' x → Pres [] x y → T' y) ∧ T' w' ∧ ∀ x, T' x → wpAnyT P .any ops (fun a w => ∃ st, Sat c N st a w ∧ K st) f' (done.setIfInBounds i true) S' a' x) (fun g' st' a' w' h1 h2 => by
          obtain ⟨h3, h4⟩ := h2
          exact ⟨Sw (msk kept st'), C c st', fun x hx => sw_mono (h3.1) h3.2 hx, fun x hx => wok_sw hx, fun x y hx hy => WOK.pres' hx hy, h1.wok, fun x hx => ih _ _ g' st' a' x (h1.world hx) h4⟩) hk
      unfold wpOp
      simp only [ho]
      split
      · rename_i hw; exact .inl (key.1 hw)
      · rename_i hw; exact key.2 hw
end
end Go.TR
