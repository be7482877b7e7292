/-
A small program logic of our own for the model. Part u: maps with string keys, and the iterators over them. Nothing here speaks of one program.
-/
import Derived.Test.YthkkgphjjmhglaaGreatDoorFwL
import Derived.MapKept
import Derived.Maps.RangeRun
/-!
A small program logic of our own for the model. Part u: maps with string keys, and the iterators over them. Nothing here speaks of one program.
-/
namespace Go.TR
set_option linter.unusedVariables false
set_option linter.unusedSimpArgs false
variable {P : Program} {tb : Tb} {N : Nat}
open Go.ChangeMaps (setBlock)

/-! ### The map's object, told of by a function -/
/-- The map's entries tell the function m: each key is a string, each stands once. -/
structure MapIs (es : Array MapEntry) (clock : Nat) (m : List UInt8 → Option Value) : Prop where
  st : MapKept.Stamped es clock
  key : ∀ x ∈ es.toList, ∃ s, x.key = S s
  get : ∀ x ∈ es.toList, ∀ s, x.key = S s → m s = some x.val
  has : ∀ s v, m s = some v → ∃ x ∈ es.toList, x.key = S s ∧ x.val = v
def updM (m : List UInt8 → Option Value) (k : List UInt8) (v : Value) : List UInt8 → Option Value := fun s => if s = k then some v else m s
theorem S_inj {a b : List UInt8} (h : S a = S b) : a = b := by
  simp only [S, mkB, Value.string.injEq, ByteArray.mk.injEq] at h
  simpa using congrArg Array.toList h
theorem MapIs.empty : MapIs #[] 0 (fun _ => none) := ⟨MapKept.stamped_empty 0, by simp, by simp, by simp⟩
theorem isKey_S (s : List UInt8) : MapKept.IsKey .string (S s) := trivial
theorem MapIs.isKey {es : Array MapEntry} {clock : Nat} {m : List UInt8 → Option Value} (h : MapIs es clock m) : ∀ x ∈ es.toList, MapKept.IsKey .string x.key := fun x hx => by
  obtain ⟨s, hs⟩ := h.key x hx
  rw [hs]
  exact isKey_S s
theorem MapIs.push {es : Array MapEntry} {clock : Nat} {m : List UInt8 → Option Value} (h : MapIs es clock m) {k : List UInt8} {v : Value} (hk : ∀ x ∈ es.toList, x.key ≠ S k) : MapIs (es.push ⟨S k, v, clock⟩) (clock + 1) (updM m k v) := by
  refine ⟨MapKept.stamped_push h.st hk, fun x hx => ?_, fun x hx s hs => ?_, fun s u hs => ?_⟩
  · simp only [Array.toList_push, List.mem_append, List.mem_singleton] at hx
    rcases hx with hx | rfl
    · exact h.key x hx
    · exact ⟨k, rfl⟩
  · simp only [Array.toList_push, List.mem_append, List.mem_singleton] at hx
    unfold updM
    rcases hx with hx | rfl
    · rw [if_neg (by rintro rfl; exact hk x hx hs)]
      exact h.get x hx s hs
    · rw [if_pos (S_inj hs).symm]
  · unfold updM at hs
    by_cases hsk : s = k
    · rw [if_pos hsk] at hs
      subst hsk
      exact ⟨⟨S s, v, clock⟩, by simp, rfl, Option.some.inj hs⟩
    · rw [if_neg hsk] at hs
      obtain ⟨x, hx, h1, h2⟩ := h.has s u hs
      exact ⟨x, by simp [Array.mem_toList_iff.1 hx], h1, h2⟩
theorem MapIs.modify {es : Array MapEntry} {clock : Nat} {m : List UInt8 → Option Value} (h : MapIs es clock m) {k : List UInt8} {v : Value} {j : Nat} {e : MapEntry} (hj : es[j]? = some e) (hk : e.key = S k) : MapIs (es.modify j fun x => { x with key := S k, val := v }) clock (updM m k v) := by
  have hkey : ∀ x, es[j]? = some x → ({ x with key := S k, val := v } : MapEntry).key = x.key := fun x hx => by
    rw [hj] at hx
    cases hx
    exact hk.symm
  have hget : ∀ i : Nat, (es.modify j fun x => { x with key := S k, val := v })[i]? = if j = i then (es[i]?).map (fun x => { x with key := S k, val := v }) else es[i]? := fun i => by
    rw [Array.getElem?_modify]
  have hnd : ∀ i x, es[i]? = some x → x.key = S k → i = j := fun i x hx hxk => by
    have h3 := h.st.2.2
    rw [List.Nodup, List.pairwise_iff_getElem] at h3
    obtain ⟨hi, hxi⟩ := Array.getElem?_eq_some_iff.1 hx
    obtain ⟨hjl, hej⟩ := Array.getElem?_eq_some_iff.1 hj
    rcases Nat.lt_trichotomy i j with hlt | heq | hgt
    · have := h3 i j (by simpa using hi) (by simpa using hjl) hlt
      simp only [List.getElem_map, Array.getElem_toList, hxi, hej, hxk, hk] at this
      exact absurd rfl this
    · exact heq
    · have := h3 j i (by simpa using hjl) (by simpa using hi) hgt
      simp only [List.getElem_map, Array.getElem_toList, hxi, hej, hxk, hk] at this
      exact absurd rfl this
  have hmem : ∀ x, x ∈ (es.modify j fun x => { x with key := S k, val := v }).toList → (x.key = S k ∧ x.val = v) ∨ (x ∈ es.toList ∧ x.key ≠ S k) := fun x hx => by
    obtain ⟨i, hi⟩ := List.getElem?_of_mem hx
    rw [Array.getElem?_toList, hget] at hi
    by_cases hij : j = i
    · rw [if_pos hij, Option.map_eq_some_iff] at hi
      obtain ⟨y, _, rfl⟩ := hi
      exact .inl ⟨rfl, rfl⟩
    · rw [if_neg hij] at hi
      exact .inr ⟨by simpa using Array.mem_of_getElem? hi, fun hxk => hij (hnd i x hi hxk).symm⟩
  refine ⟨MapKept.stamped_modify h.st _ _ (fun _ _ => rfl) (fun x _ hx => hkey x hx), fun x hx => ?_, fun x hx s hs => ?_, fun s u hs => ?_⟩
  · rcases hmem x hx with ⟨h1, _⟩ | ⟨h1, _⟩
    · exact ⟨k, h1⟩
    · exact h.key x h1
  · unfold updM
    rcases hmem x hx with ⟨h1, h2⟩ | ⟨h1, h2⟩
    · rw [if_pos (S_inj (hs.symm.trans h1)), h2]
    · rw [if_neg (by rintro rfl; exact h2 hs)]
      exact h.get x h1 s hs
  · unfold updM at hs
    by_cases hsk : s = k
    · rw [if_pos hsk] at hs
      subst hsk
      refine ⟨{ e with key := S s, val := v }, ?_, rfl, Option.some.inj hs⟩
      have := hget j
      rw [if_pos rfl, hj] at this
      exact List.mem_of_getElem? (by rw [Array.getElem?_toList]; exact this)
    · rw [if_neg hsk] at hs
      obtain ⟨x, hx, h1, h2⟩ := h.has s u hs
      obtain ⟨i, hi⟩ := List.getElem?_of_mem hx
      rw [Array.getElem?_toList] at hi
      have hij : j ≠ i := by
        rintro rfl
        rw [hj] at hi
        cases hi
        exact hsk (S_inj (h1.symm.trans hk))
      have := hget i
      rw [if_neg hij, hi] at this
      exact ⟨x, List.mem_of_getElem? (by rw [Array.getElem?_toList]; exact this), h1, h2⟩
/-- What is found under a key. -/
theorem MapIs.find {es : Array MapEntry} {clock : Nat} {m : List UInt8 → Option Value} (h : MapIs es clock m) (k : List UInt8) :
    (m k = none ∧ Instr.findNow .string (S k) es.toList 0 = some none ∧ ∀ x ∈ es.toList, x.key ≠ S k) ∨
    ∃ j e, m k = some e.val ∧ Instr.findNow .string (S k) es.toList 0 = some (some (j, e.val)) ∧ es[j]? = some e ∧ e.key = S k := by
  rcases MapKept.findNow_spec (isKey_S k) es.toList 0 h.isKey with ⟨h1, h2⟩ | ⟨j, e, h1, h2, h3⟩
  · refine .inl ⟨?_, h1, h2⟩
    cases hm : m k with
    | none => rfl
    | some v =>
      obtain ⟨x, hx, h3, _⟩ := h.has k v hm
      exact absurd h3 (h2 x hx)
  · exact .inr ⟨j, e, h.get e (List.mem_of_getElem? h2) k h3, by simpa using h1, by simpa using h2, h3⟩

/-! ### The machine's own words -/
theorem run_lookup_str {t kt et : TypeId} (hm : P.underlying t = some (.map kt et)) (hk : P.underlying kt = some .string) {w : World} {b : Nat} {es : Array MapEntry} {clock : Nat} {m : List UInt8 → Option Value} (hb : w.heap[b]? = some (.map es clock)) (h : MapIs es clock m) {z : Value} (hz : (zeroValue et).run P w = .ok z w) (k : List UInt8) (ok : Bool) :
    (Instr.lookup t (.map (some b)) (S k) ok).run P w = .ok (if ok then .tuple #[(m k).getD z, .bool (m k).isSome] else (m k).getD z) w := by
  rcases h.find k with ⟨h0, h1, _⟩ | ⟨j, e, h0, h1, _, _⟩
  · cases ok <;> simp [Instr.lookup, run_underlying hm, MapKept.run_getObj_map hb, MapKept.run_checkKey hk (isKey_S k), MapKept.run_findKey hk h1, Result.andThen, hz, h0]
  · cases ok <;> simp [Instr.lookup, run_underlying hm, MapKept.run_getObj_map hb, MapKept.run_checkKey hk (isKey_S k), MapKept.run_findKey hk h1, Result.andThen, h0]
theorem run_mapUpdate_str {t kt et : TypeId} (hm : P.underlying t = some (.map kt et)) (hk : P.underlying kt = some .string) {w : World} {b : Nat} {es : Array MapEntry} {clock : Nat} {m : List UInt8 → Option Value} (hb : w.heap[b]? = some (.map es clock)) (h : MapIs es clock m) (k : List UInt8) (v : Value) :
    ∃ es' clock', MapIs es' clock' (updM m k v) ∧ (Instr.mapUpdate t (.map (some b)) (S k) v).run P w = .ok () (setBlock w b (.map es' clock')) := by
  rcases h.find k with ⟨h0, h1, h2⟩ | ⟨j, e, h0, h1, h2, h3⟩
  · refine ⟨_, _, h.push h2, ?_⟩
    simp [Instr.mapUpdate, run_underlying hm, MapKept.run_getObj_map hb, MapKept.run_checkKey hk (isKey_S k), MapKept.run_findKey hk h1, MapKept.run_setObj_map _ hb, Result.andThen, setBlock]
  · refine ⟨_, _, h.modify h2 h3, ?_⟩
    simp [Instr.mapUpdate, run_underlying hm, MapKept.run_getObj_map hb, MapKept.run_checkKey hk (isKey_S k), MapKept.run_findKey hk h1, h2, h3, MapKept.run_keyThatStays (isKey_S k), MapKept.run_setObj_map _ hb, Result.andThen, setBlock]

/-! ### A young block in the frozen part is turned -/
theorem turn_sat {c : Ctx} {g : GEnv} {env : Env} {F : Hp} {rs : RL} {nx : Nat} {a : Act} {w w' : World} (h : GSat c N g ⟨env, F, rs, nx⟩ a w) {id : Nat} {r : Blk} {b0 b : Nat} (hr : lkR rs id = some r) (hb0 : r.at b0) (hle : b0 ≤ b) {o o' : Obj} (hF : F b = some o) (hp : Pres [b] w w') (hw : w'.heap[b]? = some o') :
    GSat c N g ⟨env, F.plus b o', rs, nx⟩ a w' := by
  have hy : c.wE.heap.size ≤ b := Nat.le_trans (h.wok.new id r b0 hr hb0) hle
  exact {
    size := h.size
    defers := h.defers
    wok := {
      le := fun k o1 e => by
        have e : (if k = b then some o' else F k) = some o1 := e
        by_cases hk : k = b
        · subst hk
          rw [if_pos rfl] at e
          rw [← e]; exact hw
        · rw [if_neg hk] at e
          have h1 := h.wok.le k o1 e
          exact (hp.block k (lt_of_some h1) (by simpa using hk)).trans h1
      own := {
        own := fun k s hs => by
          have h1 := h.wok.own.own k s hs
          cases hsb : s.blk with
          | none => rw [hsb] at h1; exact h1
          | some b' =>
            rw [hsb] at h1
            obtain ⟨g1, g2, cur', g3, g4, g5⟩ := h1
            have hne : b' ≠ b := by
              rintro rfl
              have g1 : F b' = none := g1
              rw [hF] at g1
              cases g1
            exact ⟨by show (if b' = b then some o' else F b') = none; rw [if_neg hne]; exact g1, g2, cur', (hp.block _ (lt_of_some g3) (by simpa using hne)).trans g3, g4, g5⟩
        apart := h.wok.own.apart }
      pres := h.wok.pres.trans' hp (fun y hy' => .inr (by rw [List.mem_singleton.1 hy']; exact hy))
      new := h.wok.new
      fnew := fun k hk => by
        have hk : (if k = b then some o' else F k).isSome = true := hk
        by_cases he : k = b
        · subst he
          exact .inr hy
        · rw [if_neg he] at hk
          exact h.wok.fnew k hk
      sz := Nat.le_trans h.wok.sz hp.size
      tp := h.wok.tp }
    hist := {
      sub := fun k o1 e => by
        show (if k = b then some o' else F k) = some o1
        rw [if_neg (by rintro rfl; rw [(h.wok.tp k hy).2] at e; cases e)]
        exact h.hist.sub k o1 e
      nxle := h.hist.nxle
      succ := h.hist.succ }
    rids := h.rids
    ids := h.ids
    env := h.env
    gv := h.gv }
/-- A new block, frozen at once. -/
theorem fresh_sat {c : Ctx} {g : GEnv} {env : Env} {F : Hp} {rs : RL} {nx : Nat} {a : Act} {w : World} (h : GSat c N g ⟨env, F, rs, nx⟩ a w) (o : Obj) :
    F w.heap.size = none ∧ GSat c N g ⟨env, F.plus w.heap.size o, rs, nx⟩ a (w.alloc o) := by
  have hfr : F w.heap.size = none := by
    cases hf : F w.heap.size with
    | none => rfl
    | some o => have := lt_of_some (h.wok.le _ _ hf); omega
  have hp : Pres [] w (w.alloc o) := Pres.alloc [] w _
  have hsub : F.sub (F.plus w.heap.size o) := fun k o1 e => by
    show (if k = w.heap.size then some o else F k) = some o1
    rw [if_neg (by rintro rfl; rw [hfr] at e; cases e)]
    exact e
  refine ⟨hfr, {
    size := h.size
    defers := h.defers
    wok := {
      le := fun k o1 e => by
        have e : (if k = w.heap.size then some o else F k) = some o1 := e
        by_cases hk : k = w.heap.size
        · subst hk
          rw [if_pos rfl] at e
          rw [← e]; exact heap_alloc_new w _
        · rw [if_neg hk] at e
          exact (h.wok.le.pres hp (by simp)) k o1 e
      own := {
        own := fun k s hs => by
          have h1 := h.wok.own.own k s hs
          cases hsb : s.blk with
          | none => rw [hsb] at h1; exact h1
          | some b' =>
            rw [hsb] at h1
            obtain ⟨g1, g2, cur', g3, g4, g5⟩ := h1
            have hne : b' ≠ w.heap.size := by have := lt_of_some g3; omega
            exact ⟨by show (if b' = w.heap.size then some o else F b') = none; rw [if_neg hne]; exact g1, g2, cur', (hp.block _ (lt_of_some g3) (by simp)).trans g3, g4, g5⟩
        apart := h.wok.own.apart }
      pres := h.wok.pres.trans hp
      new := h.wok.new
      fnew := fun k hk => by
        have hk : (if k = w.heap.size then some o else F k).isSome = true := hk
        by_cases he : k = w.heap.size
        · subst he
          exact .inr h.wok.pres.size
        · rw [if_neg he] at hk
          exact h.wok.fnew k hk
      sz := Nat.le_trans h.wok.sz hp.size
      tp := h.wok.tp }
    hist := {
      sub := h.hist.sub.trans hsub
      nxle := h.hist.nxle
      succ := h.hist.succ }
    rids := h.rids
    ids := h.ids
    env := h.env
    gv := h.gv }⟩
/-- A young block's number, kept in mind. -/
def mark (b : Nat) : Blk := ⟨none, [.v (.int .i64 (b : Int))], 0, 0⟩
theorem mark_at (b : Nat) : (mark b).at b := .inr ⟨rfl, rfl, rfl⟩
theorem mark_sat {c : Ctx} {g : GEnv} {env : Env} {F : Hp} {rs : RL} {nx : Nat} {a : Act} {w : World} (h : GSat c N g ⟨env, F, rs, nx⟩ a w) {b : Nat} (hb : c.wE.heap.size ≤ b) :
    GSat c N g ⟨env, F, (nx, mark b) :: rs, nx + 1⟩ a w := {
  size := h.size
  defers := h.defers
  wok := {
    le := h.wok.le
    own := {
      own := fun id r hr => by
        rw [lkR_cons] at hr
        split at hr
        · simp only [Option.some.injEq] at hr
          subst hr
          exact ⟨.inr ⟨rfl, b, rfl⟩, rfl⟩
        · have h1 := h.wok.own.own id r hr
          cases hbk : r.blk with
          | none => rw [hbk] at h1; exact h1
          | some b' =>
            rw [hbk] at h1
            obtain ⟨g1, g2, cur, g3, g4, g5⟩ := h1
            refine ⟨g1, g2, cur, g3, g4, fun j ev x hj hx => ?_⟩
            have hm := (h.rids id r hr).2 ev (List.mem_of_getElem? hj)
            rw [val_cons hm] at hx
            exact g5 j ev x hj hx
      apart := fun i j r s b' hi hj hbr hbs => by
        rw [lkR_cons] at hi hj
        split at hi
        · simp only [Option.some.injEq] at hi
          subst hi
          cases hbr
        · split at hj
          · simp only [Option.some.injEq] at hj
            subst hj
            cases hbs
          · exact h.wok.own.apart i j r s b' hi hj hbr hbs }
    pres := h.wok.pres
    new := fun id r b' hr hbr => by
      rw [lkR_cons] at hr
      split at hr
      · simp only [Option.some.injEq] at hr
        subst hr
        rcases hbr with hbr | ⟨_, _, hbr⟩
        · cases hbr
        · simp only [mark, List.cons.injEq, EV.v.injEq, Value.int.injEq, true_and, and_true] at hbr
          omega
      · exact h.wok.new id r b' hr hbr
    fnew := h.wok.fnew
    sz := h.wok.sz
    tp := h.wok.tp }
  hist := h.hist.cons _
  rids := fun id r hr => by
    simp only [lkR_cons] at hr
    split at hr
    · simp only [Option.some.injEq] at hr
      subst hr
      exact ⟨by simp only; omega, fun e he => by simp only [mark, List.mem_singleton] at he; subst he; trivial⟩
    · obtain ⟨h1, h2⟩ := h.rids id r hr
      exact ⟨by simp only at h1 ⊢; omega, fun e he => (h2 e he).mono (Nat.le_succ _)⟩
  ids := fun n e he => (h.ids n e he).mono (Nat.le_succ _)
  env := fun n e x hg he hx => by
    rw [val_cons (h.ids n e he)] at hx
    exact h.env n e x hg he hx
  gv := fun n ch e hg => by
    obtain ⟨h1, h2, h3, h4⟩ := h.gv n ch e hg
    refine ⟨fun hA => ⟨fun x hx => (h1 hA).1 x ?_, (h1 hA).2⟩, h2, h3.mono (Nat.le_succ _), h4⟩
    rw [val_cons h3] at hx
    exact hx }
theorem pres_setBlock (w : World) (b : Nat) (o : Obj) : Pres [b] w (setBlock w b o) := ⟨rfl, rfl, rfl, by simp [setBlock], fun k _ hk => by
  have : k ≠ b := by simpa using hk
  simp [setBlock, Ne.symm this]⟩
theorem setBlock_at {w : World} {b : Nat} {o : Obj} (o' : Obj) (h : w.heap[b]? = some o) : (setBlock w b o').heap[b]? = some o' := by
  have := lt_of_some h
  simp [setBlock, this]

theorem GSat.drewN {c : Ctx} {g : GEnv} {st : St} {a : Act} {w : World} (h : GSat c N g st a w) : GSat c N g st a w.drew := by
  have hp : Pres [] w w.drew := Pres.drewN [] w 1
  exact {
    size := h.size
    defers := h.defers
    wok := h.wok.pres' hp
    hist := h.hist
    rids := h.rids
    ids := h.ids
    env := h.env
    gv := h.gv }
theorem nodup_born {l : List MapEntry} (h : (l.map (·.born)).Nodup) {x y : MapEntry} (hx : x ∈ l) (hy : y ∈ l) (e : x.born = y.born) : x = y := by
  have h1 := find_born x l h hx
  have h2 := find_born y l h hy
  rw [e, h2] at h1
  exact (Option.some.inj h1).symm
theorem nodup_key : ∀ {l : List MapEntry}, (l.map (·.key)).Nodup → ∀ {x y : MapEntry}, x ∈ l → y ∈ l → x.key = y.key → x = y
  | [], _, x, y, hx, _, _ => by cases hx
  | a :: l, h, x, y, hx, hy, e => by
    rw [List.map_cons, List.nodup_cons] at h
    rcases List.mem_cons.1 hx with rfl | hx1
    · rcases List.mem_cons.1 hy with rfl | hy1
      · rfl
      · exact absurd (List.mem_map.2 ⟨y, hy1, e.symm⟩) h.1
    · rcases List.mem_cons.1 hy with rfl | hy1
      · exact absurd (List.mem_map.2 ⟨x, hx1, e⟩) h.1
      · exact nodup_key h.2 hx1 hy1 e

/-! ### The steps -/
variable {all rest : List Oper} {K : GEnv → St → Prop}
theorem s_semN {op : Op} {ty : TypeId} {pos : String} {af : Array Edge} {ι : Type} {st : St} {env : ι → Env} {F : ι → Hp} {rs : ι → RL} {nx : ι → Nat}
    (h : ∀ (c : Ctx) (a : Act) (w : World) (o : Oper), GSat c N [] st a w → o.op = op → ∃ i w', (execOp a.eval o).run P w = .ok .skip w' ∧ GSat c N [] ⟨env i, F i, rs i, nx i⟩ a w')
    (k : ∀ i, vcOps P tb N false all rest K [] ⟨env i, F i, rs i, nx i⟩) : vcOps P tb N false all (⟨none, op, ty, pos, af, none⟩ :: rest) K [] st := by
  refine .inr (.inr ⟨rfl, VS.id (.inr (.inr ⟨ι, fun _ => .v undef, fun i => ⟨env i, F i, rs i, nx i⟩, fun c a w o h1 h2 => (by obtain ⟨i, w', q1, q2⟩ := h c a w o h1 h2; exact ⟨i, undef, w', .inr ⟨rfl, q1⟩, q2, rfl⟩), fun i => ?_⟩))⟩)
  exact k i
section
variable {env : Env} {F : Hp} {rs : RL} {nx : Nat} {ty : TypeId} {pos : String} {af : Array Edge}
/-- A new map: its block's number is kept in mind. -/
theorem s_makeMap {d : Nat} {t : TypeId} (hd : Nat.blt d N = true)
    (k : ∀ b, F b = none → vcOps P tb N false all rest K [] ⟨(d, .v (.map (some b))) :: env, F.plus b (.map #[] 0), (nx, mark b) :: rs, nx + 1⟩) :
    vcOps P tb N false all (⟨some d, .makeMap t none, ty, pos, af, none⟩ :: rest) K [] ⟨env, F, rs, nx⟩ := by
  refine s_semF (ι := { b : Nat // F b = none }) (fun b => .v (.map (some b.1))) (env := fun _ => env) (F := fun b => F.plus b.1 (.map #[] 0)) (rs := fun b => (nx, mark b.1) :: rs) (nx := fun _ => nx + 1) hd (fun c a w o hs ho => ?_) (fun b => k b.1 b.2)
  obtain ⟨h1, h2⟩ := fresh_sat hs (.map #[] 0)
  refine ⟨⟨w.heap.size, h1⟩, .map (some w.heap.size), w.alloc (.map #[] 0), ?_, mark_sat h2 hs.wok.pres.size, rfl⟩
  simp [execOp, ho, Instr.makeMap, Result.andThen]
/-- .. where an elder one is known. -/
theorem s_makeMap2 {d : Nat} {t : TypeId} (b0 : Nat) {o0 : Obj} (hd : Nat.blt d N = true) (h0 : F b0 = some o0)
    (k : ∀ b, F b = none → b0 < b → vcOps P tb N false all rest K [] ⟨(d, .v (.map (some b))) :: env, F.plus b (.map #[] 0), rs, nx⟩) :
    vcOps P tb N false all (⟨some d, .makeMap t none, ty, pos, af, none⟩ :: rest) K [] ⟨env, F, rs, nx⟩ := by
  refine s_semF (ι := { b : Nat // F b = none ∧ b0 < b }) (fun b => .v (.map (some b.1))) (env := fun _ => env) (F := fun b => F.plus b.1 (.map #[] 0)) (rs := fun _ => rs) (nx := fun _ => nx) hd (fun c a w o hs ho => ?_) (fun b => k b.1 b.2.1 b.2.2)
  obtain ⟨h1, h2⟩ := fresh_sat hs (.map #[] 0)
  refine ⟨⟨w.heap.size, h1, lt_of_some (hs.wok.le _ _ h0)⟩, .map (some w.heap.size), w.alloc (.map #[] 0), ?_, h2, rfl⟩
  simp [execOp, ho, Instr.makeMap, Result.andThen]
/-- What is found under a key. -/
theorem s_lookup {d : Nat} {t kt et : TypeId} {x y : Operand} {ok : Bool} {b : Nat} {es : Array MapEntry} {clock : Nat} (m : List UInt8 → Option Value) (q : List UInt8) {z : Value} (hm : P.underlying t = some (.map kt et)) (hk : P.underlying kt = some .string)
    (hx : opd rs [] env [] x = some (.v (.map (some b)))) (hy : opd rs [] env [] y = some (.v (S q))) (hz : ∀ w, (zeroValue et).run P w = .ok z w) (hd : Nat.blt d N = true) (hF : F b = some (.map es clock)) (hM : MapIs es clock m)
    (k : vcOps P tb N false all rest K [] ⟨(d, .v (if ok then .tuple #[(m q).getD z, .bool (m q).isSome] else (m q).getD z)) :: env, F, rs, nx⟩) :
    vcOps P tb N false all (⟨some d, .lookup t x y ok, ty, pos, af, none⟩ :: rest) K [] ⟨env, F, rs, nx⟩ := by
  refine s_sem (.v (if ok then .tuple #[(m q).getD z, .bool (m q).isSome] else (m q).getD z)) hd (fun c a w o hs ho => ?_) k
  have e1 : (EV.v (.map (some b))).val rs = some (a.eval x) := fits_opd hs (gA_nil a) _ _ hx
  have e2 : (EV.v (S q)).val rs = some (a.eval y) := fits_opd hs (gA_nil a) _ _ hy
  simp only [EV.val, Option.some.injEq] at e1 e2
  refine ⟨_, w, ?_, hs, rfl⟩
  simp only [execOp, ho, ← e1, ← e2]
  rw [run_bind, run_lookup_str hm hk (hs.wok.le _ _ hF) hM (hz w) q ok]
  rfl
/-- A key gets a value. -/
theorem s_mapUpdate {t kt et : TypeId} {x y u : Operand} {b b0 id : Nat} {r : Blk} {es : Array MapEntry} {clock : Nat} (m : List UInt8 → Option Value) (q : List UInt8) {v : Value} (hm : P.underlying t = some (.map kt et)) (hk : P.underlying kt = some .string)
    (hx : opd rs [] env [] x = some (.v (.map (some b)))) (hy : opd rs [] env [] y = some (.v (S q))) (hu : opd rs [] env [] u = some (.v v)) (hr : lkR rs id = some r) (hb0 : r.at b0) (hle : b0 ≤ b) (hF : F b = some (.map es clock)) (hM : MapIs es clock m)
    (k : ∀ es' clock', MapIs es' clock' (updM m q v) → vcOps P tb N false all rest K [] ⟨env, F.plus b (.map es' clock'), rs, nx⟩) :
    vcOps P tb N false all (⟨none, .mapUpdate t x y u, ty, pos, af, none⟩ :: rest) K [] ⟨env, F, rs, nx⟩ := by
  refine s_semN (ι := { p : Array MapEntry × Nat // MapIs p.1 p.2 (updM m q v) }) (env := fun _ => env) (F := fun p => F.plus b (.map p.1.1 p.1.2)) (rs := fun _ => rs) (nx := fun _ => nx) (fun c a w o hs ho => ?_) (fun p => k p.1.1 p.1.2 p.2)
  have e1 : (EV.v (.map (some b))).val rs = some (a.eval x) := fits_opd hs (gA_nil a) _ _ hx
  have e2 : (EV.v (S q)).val rs = some (a.eval y) := fits_opd hs (gA_nil a) _ _ hy
  have e3 : (EV.v v).val rs = some (a.eval u) := fits_opd hs (gA_nil a) _ _ hu
  simp only [EV.val, Option.some.injEq] at e1 e2 e3
  have hb := hs.wok.le _ _ hF
  obtain ⟨es', clock', h1, h2⟩ := run_mapUpdate_str (P := P) hm hk hb hM q v
  refine ⟨⟨(es', clock'), h1⟩, setBlock w b (.map es' clock'), ?_, turn_sat hs hr hb0 hle hF (pres_setBlock w b _) (setBlock_at _ hb)⟩
  simp only [execOp, ho, ← e1, ← e2, ← e3]
  rw [run_bind, h2]
  rfl
/-- A slice out of a map, whose block stands in the frozen part: none yet, or a block of its own. -/
def SlAt (F : Hp) (e : TypeId) (size : Nat) (p : Option Addr) (n c : Nat) (cs : List Value) : Prop :=
  cs.length = n * size ∧ n ≤ c ∧ ((p = none ∧ n = 0 ∧ c = 0) ∨ ∃ b cur, p = some ⟨b, 0, none⟩ ∧ F b = some (.cells cur e (0, 0)) ∧ cur.size = c * size ∧ cur.toList.take (n * size) = cs)
theorem SlAt.frow {F : Hp} {e : TypeId} {size : Nat} {p : Option Addr} {n c : Nat} {cs : List Value} (h : SlAt F e size p n c cs) : Frow F p cs := by
  obtain ⟨h1, h2, h3⟩ := h
  rcases h3 with ⟨_, h4, _⟩ | ⟨b, cur, rfl, h4, h5, h6⟩
  · have : cs = [] := List.eq_nil_of_length_eq_zero (by rw [h1, h4, Nat.zero_mul])
    subst this
    exact fun j u hj => by simp at hj
  · intro j u hj
    have hj' : j < n * size := by rw [← h1]; exact (List.getElem?_eq_some_iff.1 hj).1
    rw [← h6, List.getElem?_take, if_pos hj'] at hj
    simp only [padd, Option.map_some, Pcell, Option.bind_some, addr_add0, Nat.zero_add, Fcell, h4]
    simpa using hj
theorem SlAt.other {F : Hp} {e : TypeId} {size : Nat} {p : Option Addr} {n c : Nat} {cs : List Value} (h : SlAt F e size p n c cs) {b : Nat} {o : Obj} (hb : ∀ b', p = some ⟨b', 0, none⟩ → b' ≠ b) : SlAt (F.plus b o) e size p n c cs := by
  obtain ⟨h1, h2, h3⟩ := h
  refine ⟨h1, h2, ?_⟩
  rcases h3 with h3 | ⟨b', cur, h4, h5, h6⟩
  · exact .inl h3
  · refine .inr ⟨b', cur, h4, ?_, h6⟩
    show (if b' = b then some o else F b') = _
    rw [if_neg (hb b' h4)]
    exact h5
/-- append onto a slice out of a map: in its own block, or in a new one. -/
theorem s_appM {d : Nat} {x y : Operand} {t1 t2 e : TypeId} {p : Option Addr} {n c m b0 id : Nat} {r : Blk} {o0 : Obj} {cs vs : List Value} {ti : TI} (htb : TbOK P tb) (ht : tk tb t1 = some (.slice e)) (ht2 : srcTy (tk tb t2) = true) (hi : tb e = some ti) (h0 : (Nat.blt 0 ti.size && Nat.beq ti.zero.length ti.size && Nat.blt 0 ti.bytes) = true)
    (hx : opd rs [] env [] x = some (.v (.slice p n c))) (hd : Nat.blt d N = true) (hsrc : SrcIs F rs ti.size (opd rs [] env [] y) m (vs.map .v)) (hone : oneAll rs (vs.map .v)) (hm : 0 < m) (hnl : vs.length = m * ti.size) (hb : (n + m) * ti.bytes ≤ 140737488355328)
    (hr : lkR rs id = some r) (hb0 : r.at b0) (hF0 : F b0 = some o0) (hp : SlAt F e ti.size p n c cs) (hyoung : ∀ b, p = some ⟨b, 0, none⟩ → b0 ≤ b)
    (k : ∀ b' c' o', (p = some ⟨b', 0, none⟩ ∨ F b' = none ∧ b0 < b') → SlAt (F.plus b' o') e ti.size (some ⟨b', 0, none⟩) (n + m) c' (cs ++ vs) → vcOps P tb N false all rest K [] ⟨(d, .v (.slice (some ⟨b', 0, none⟩) (n + m) c')) :: env, F.plus b' o', rs, nx⟩) :
    vcOps P tb N false all (⟨some d, .call ⟨.builtin .append, #[x, y], #[t1, t2]⟩, ty, pos, af, none⟩ :: rest) K [] ⟨env, F, rs, nx⟩ := by
  simp only [Bool.and_eq_true, Nat.blt_eq, Nat.beq_eq] at h0
  obtain ⟨⟨hs0, hz0⟩, hby0⟩ := h0
  obtain ⟨i, z, hinfo, hsz, hby, hz, hzs⟩ := info_of htb hi
  have hut := und_slice htb ht
  have hnm : n + m ≤ (n + m) * ti.bytes := Nat.le_mul_of_pos_right _ hby0
  obtain ⟨p1, p2, p3⟩ := hp
  refine s_semF (ι := { q : Nat × Nat × Obj // (p = some ⟨q.1, 0, none⟩ ∨ F q.1 = none ∧ b0 < q.1) ∧ SlAt (F.plus q.1 q.2.2) e ti.size (some ⟨q.1, 0, none⟩) (n + m) q.2.1 (cs ++ vs) }) (fun q => .v (.slice (some ⟨q.1.1, 0, none⟩) (n + m) q.1.2.1)) (env := fun _ => env) (F := fun q => F.plus q.1.1 q.1.2.2) (rs := fun _ => rs) (nx := fun _ => nx) hd (fun c' a w o hs ho => ?_) (fun q => k q.1.1 q.1.2.1 q.1.2.2 q.2.1 q.2.2)
  have ex := opd_eval hs hx
  simp only [EV.val, Option.some.injEq] at ex
  obtain ⟨m', news', vs', ⟨rfl, rfl⟩, s1, s2, s3, s4⟩ := src_ok (P := P) htb hs hs0 ht2 (K := fun m' n' => m' = m ∧ n' = vs.map .v) (hsrc _ ⟨hone, rfl, rfl⟩)
  have hvs : vs' = vs := by
    apply List.ext_getElem?
    intro j
    rw [List.length_map] at s2
    by_cases hj : j < vs.length
    · have := s4 j (.v vs[j]) vs[j] (by rw [List.getElem?_map, List.getElem?_eq_getElem hj]; rfl) rfl
      rw [this, List.getElem?_eq_getElem hj]
    · rw [List.getElem?_eq_none (by omega), List.getElem?_eq_none (by omega)]
  subst hvs
  have hslat : ∀ {b' cap' : Nat} {cur : Array Value}, n + m' ≤ cap' → cur.size = cap' * ti.size → cur.toList.take ((n + m') * ti.size) = cs ++ vs' → SlAt (F.plus b' (.cells cur e (0, 0))) e ti.size (some ⟨b', 0, none⟩) (n + m') cap' (cs ++ vs') := fun {b' cap' cur} h1 h2 h3 => by
    refine ⟨by rw [List.length_append, p1, hnl, ← Nat.add_mul], h1, .inr ⟨b', cur, rfl, ?_, h2, h3⟩⟩
    show (if b' = b' then some _ else F b') = _
    rw [if_pos rfl]
  have hgrow : c < n + m' → (Builtin.firstCells i.size n (.slice p n c)).run P w.drew = .ok cs.toArray w.drew → ∃ (q : { q : Nat × Nat × Obj // (p = some ⟨q.1, 0, none⟩ ∨ F q.1 = none ∧ b0 < q.1) ∧ SlAt (F.plus q.1 q.2.2) e ti.size (some ⟨q.1, 0, none⟩) (n + m') q.2.1 (cs ++ vs') }) (v : Value) (w' : World), (execOp a.eval o).run P w = .ok (.value v) w' ∧ GSat c' N [] ⟨env, F.plus q.1.1 q.1.2.2, rs, nx⟩ a w' ∧ (EV.v (.slice (some ⟨q.1.1, 0, none⟩) (n + m') q.1.2.1)).val rs = some v := fun hg hold => by
    have hrun := run_append_grow_src w t1 t2 o.type e i z hut hinfo hz p n c cs hold (a.eval y) m' vs' (by rw [hsz]; exact s1) hg (by omega) (growslice_fits hg (by rw [hby]; exact hb))
    have hge := grownCap_ge w (n + m') c e
    rw [ex] at hrun
    obtain ⟨f1, f2⟩ := fresh_sat (GSat.drewN hs) (.cells ((cs ++ vs').toArray ++ Builtin.zeroCells z.cells (grownCap w (n + m') c e - (n + m'))) e)
    have hzl : (Builtin.zeroCells z.cells (grownCap w (n + m') c e - (n + m'))).size = (grownCap w (n + m') c e - (n + m')) * ti.size := by rw [size_zeroCells, hzs, hz0]
    refine ⟨⟨(w.heap.size, grownCap w (n + m') c e, .cells ((cs ++ vs').toArray ++ Builtin.zeroCells z.cells (grownCap w (n + m') c e - (n + m'))) e), .inr ⟨f1, lt_of_some (hs.wok.le _ _ hF0)⟩, hslat hge ?_ ?_⟩, _, _, run_append_op ho rfl rfl hrun, f2, rfl⟩
    · rw [Array.size_append, List.size_toArray, List.length_append, p1, hnl, hzl, ← Nat.add_mul, ← Nat.add_mul]
      congr 1
      dsimp only
      omega
    · rw [Array.toList_append, List.take_append_of_le_length (by simp only [List.length_append, p1, hnl, ← Nat.add_mul]; exact Nat.le_refl _)]
      exact List.take_of_length_le (by simp only [List.length_append, p1, hnl, ← Nat.add_mul]; exact Nat.le_refl _)
  rcases p3 with ⟨rfl, rfl, rfl⟩ | ⟨b, cur, rfl, q1, q2, q3⟩
  · have hcs : cs = [] := List.eq_nil_of_length_eq_zero (by rw [p1, Nat.zero_mul])
    subst hcs
    exact hgrow (by omega) (run_firstCells_none _ _ _ _ _)
  · have hcur := hs.wok.le _ _ q1
    by_cases hroom : n + m' ≤ c
    · have hfit : n * ti.size + vs'.length ≤ cur.size := by
        rw [q2, hnl, ← Nat.add_mul]
        exact Nat.mul_le_mul_right _ hroom
      have hrun := run_append_room_at (P := P) w t1 t2 o.type e i hut hinfo b n c (a.eval y) m' vs' (by rw [hsz]; exact s1) hroom hcur (by rw [hsz]; exact hfit)
      rw [ex, hsz] at hrun
      have hp : Pres [b] w (w.setRow b (cur.toList.take (n * ti.size) ++ vs' ++ cur.toList.drop (n * ti.size + vs'.length)).toArray) := ⟨rfl, rfl, rfl, by simp [World.setRow], fun k _ hk => setRow_other w b k _ (by simpa using hk)⟩
      refine ⟨⟨(b, c, .cells (cur.toList.take (n * ti.size) ++ vs' ++ cur.toList.drop (n * ti.size + vs'.length)).toArray e), .inl rfl, hslat hroom ?_ ?_⟩, _, _, run_append_op ho rfl rfl hrun, turn_sat hs hr hb0 (hyoung b rfl) q1 hp (setRow_heap w b cur _ _ _ hcur), rfl⟩
      · simp only [List.size_toArray, List.length_append, List.length_take, List.length_drop, Array.length_toList]
        omega
      · simp only [q3]
        rw [List.take_append_of_le_length (by rw [List.length_append, p1, hnl, ← Nat.add_mul]; exact Nat.le_refl _)]
        exact List.take_of_length_le (by rw [List.length_append, p1, hnl, ← Nat.add_mul]; exact Nat.le_refl _)
    · refine hgrow (by omega) ?_
      rw [hsz]
      refine run_firstCells_some (P := P) w.drew ti.size n ⟨b, 0, none⟩ n c cs p1 fun j u hj => ?_
      have hj' : j < n * ti.size := by rw [← p1]; exact (List.getElem?_eq_some_iff.1 hj).1
      rw [← q3, List.getElem?_take, if_pos hj'] at hj
      rw [addr_add0]
      show w.cell? _ = some u
      simp only [World.cell?, hcur]
      simpa using hj

/-! ### Iterators over a map that nobody turns meanwhile -/
/-- Where the iterator stands: the keys that it has handed out. -/
def ItIs (o : Obj) (b : Nat) (es : Array MapEntry) (clock : Nat) (dn : List (List UInt8)) : Prop :=
  ∃ since seen c0, o = .mapIter (some b) since seen c0 ∧ since ≤ c0 ∧ since ≤ clock ∧ (∀ x ∈ es.toList, x.born < since) ∧ (∀ x ∈ es.toList, ∀ s, x.key = S s → (x.born ∈ seen ↔ s ∈ dn)) ∧
    ∀ s t, dn = s :: t → c0 = clock ∧ ∃ x ∈ es.toList, x.key = S s ∧ seen.back? = some x.born
theorem itIs_new {b : Nat} {es : Array MapEntry} {clock : Nat} {m : List UInt8 → Option Value} (h : MapIs es clock m) : ItIs (.mapIter (some b) clock #[] clock) b es clock [] :=
  ⟨clock, #[], clock, rfl, Nat.le_refl _, Nat.le_refl _, h.st.1, fun x _ s _ => by simp, fun s t h => by cases h⟩
theorem s_range {d : Nat} {t kt et : TypeId} {x : Operand} {b b0 : Nat} {o0 : Obj} {es : Array MapEntry} {clock : Nat} {m : List UInt8 → Option Value} (hm : P.underlying t = some (.map kt et)) (hx : opd rs [] env [] x = some (.v (.map (some b)))) (hd : Nat.blt d N = true) (hF : F b = some (.map es clock)) (hF0 : F b0 = some o0) (hM : MapIs es clock m)
    (k : ∀ it o, F it = none → b0 < it → ItIs o b es clock [] → vcOps P tb N false all rest K [] ⟨(d, .v (.pointer (some ⟨it, 0, none⟩))) :: env, F.plus it o, rs, nx⟩) :
    vcOps P tb N false all (⟨some d, .range t x, ty, pos, af, none⟩ :: rest) K [] ⟨env, F, rs, nx⟩ := by
  refine s_semF (ι := { q : Nat × Obj // F q.1 = none ∧ b0 < q.1 ∧ ItIs q.2 b es clock [] }) (fun q => .v (.pointer (some ⟨q.1.1, 0, none⟩))) (env := fun _ => env) (F := fun q => F.plus q.1.1 q.1.2) (rs := fun _ => rs) (nx := fun _ => nx) hd (fun c a w o hs ho => ?_) (fun q => k q.1.1 q.1.2 q.2.1 q.2.2.1 q.2.2.2)
  have ex := opd_eval hs hx
  simp only [EV.val, Option.some.injEq] at ex
  have hb := hs.wok.le _ _ hF
  obtain ⟨h1, h2⟩ := fresh_sat hs (.mapIter (some b) clock #[] clock)
  refine ⟨⟨(w.heap.size, .mapIter (some b) clock #[] clock), h1, lt_of_some (hs.wok.le _ _ hF0), itIs_new hM⟩, .pointer (some ⟨w.heap.size, 0, none⟩), w.alloc (.mapIter (some b) clock #[] clock), ?_, h2, rfl⟩
  simp only [execOp, ho, ← ex]
  rw [run_bind, run_range_map w t kt et b es clock hm hb]
  rfl
/-- The next key: or there is none left. -/
theorem s_next {d : Nat} {x : Operand} {it b b0 id : Nat} {r : Blk} {oi : Obj} {es : Array MapEntry} {clock : Nat} {dn : List (List UInt8)} (m : List UInt8 → Option Value) (hx : opd rs [] env [] x = some (.v (.pointer (some ⟨it, 0, none⟩)))) (hd : Nat.blt d N = true) (hF : F b = some (.map es clock)) (hFi : F it = some oi) (hI : ItIs oi b es clock dn) (hM : MapIs es clock m)
    (hr : lkR rs id = some r) (hb0 : r.at b0) (hle : b0 ≤ it)
    (k0 : (∀ s v, m s = some v → s ∈ dn) → vcOps P tb N false all rest K [] ⟨(d, .v (.tuple #[.bool false])) :: env, F, rs, nx⟩)
    (k1 : ∀ s v o', m s = some v → s ∉ dn → ItIs o' b es clock (s :: dn) → vcOps P tb N false all rest K [] ⟨(d, .v (.tuple #[.bool true, S s, v])) :: env, F.plus it o', rs, nx⟩) :
    vcOps P tb N false all (⟨some d, .next x false, ty, pos, af, none⟩ :: rest) K [] ⟨env, F, rs, nx⟩ := by
  refine s_semF (ι := { q : Option (List UInt8 × Value × Obj) // match q with
      | none => ∀ s v, m s = some v → s ∈ dn
      | some (s, v, o') => m s = some v ∧ s ∉ dn ∧ ItIs o' b es clock (s :: dn) }) (fun q => match q.1 with
      | none => .v (.tuple #[.bool false])
      | some (s, v, _) => .v (.tuple #[.bool true, S s, v])) (env := fun _ => env) (F := fun q => match q.1 with
      | none => F
      | some (_, _, o') => F.plus it o') (rs := fun _ => rs) (nx := fun _ => nx) hd (fun c a w o hs ho => ?_) (fun q => ?_)
  · have ex := opd_eval hs hx
    simp only [EV.val, Option.some.injEq] at ex
    have hb := hs.wok.le _ _ hF
    have hbi := hs.wok.le _ _ hFi
    obtain ⟨since, seen, c0, rfl, i1, hc0, i2, i3, i4⟩ := hI
    have hrun : ∀ {v : Value} {w' : World}, (Instr.next (.pointer (some ⟨it, 0, none⟩)) false o.type).run P w = .ok v w' → (execOp a.eval o).run P w = .ok (.value v) w' := fun {v w'} h => by
      simp only [execOp, ho, ← ex]
      rw [run_bind, h]
      rfl
    rcases run_next_at (P := P) w o.type it b since c0 seen es clock hbi hb i2 i1 with ⟨n1, n2⟩ | ⟨e, n1, w1, n2, n3⟩
    · refine ⟨⟨none, fun s v hsv => ?_⟩, _, w, hrun n2, hs, rfl⟩
      obtain ⟨x, hx1, hx2, hx3⟩ := hM.has s v hsv
      refine (i3 x hx1 s hx2).1 ?_
      have := Array.eq_empty_of_size_eq_zero n1
      unfold leftOf at this
      rw [Array.filter_eq_empty_iff] at this
      have := this x (by simpa using hx1)
      simpa using this
    · have hel : e ∈ es.toList ∧ e.born ∉ seen := by
        unfold leftOf at n1
        simp only [Array.toList_filter, List.mem_filter, Bool.not_eq_true', Array.contains_eq_mem, decide_eq_false_iff_not] at n1
        exact n1
      obtain ⟨s, hsk⟩ := hM.key e hel.1
      have hsd : s ∉ dn := fun hh => hel.2 ((i3 e hel.1 s hsk).2 hh)
      have hw1 : GSat c N [] ⟨env, F, rs, nx⟩ a w1 := by
        rcases n2 with rfl | rfl
        · exact hs
        · exact GSat.drewN hs
      have hbi1 : w1.heap[it]? = some (.mapIter (some b) since seen c0) := by rcases n2 with rfl | rfl <;> exact hbi
      refine ⟨⟨some (s, e.val, .mapIter (some b) since (seen.push e.born) clock), hM.get e hel.1 s hsk, hsd, since, seen.push e.born, clock, rfl, hc0, hc0, i2, fun x hx1 s' hs' => ?_, fun s' t' h' => ?_⟩, _, _, hrun n3, turn_sat hw1 hr hb0 hle hFi (pres_setBlock w1 it _) (setBlock_at _ hbi1), ?_⟩
      · rw [Array.mem_push, List.mem_cons, i3 x hx1 s' hs']
        have hinj : x.born = e.born ↔ s' = s := by
          constructor
          · intro hbn
            have := nodup_born hM.st.2.1 hx1 hel.1 hbn
            subst this
            exact S_inj (hs'.symm.trans hsk)
          · rintro rfl
            have := nodup_key hM.st.2.2 hx1 hel.1 (hs'.trans hsk.symm)
            rw [this]
        rw [hinj, or_comm]
      · obtain ⟨rfl, rfl⟩ := List.cons.inj h'
        exact ⟨rfl, e, hel.1, hsk, by simp⟩
      · exact congrArg (fun u => some (Value.tuple #[.bool true, u, e.val])) hsk.symm
  · obtain ⟨q, hq⟩ := q
    cases q with
    | none => exact k0 hq
    | some q =>
      obtain ⟨s, v, o'⟩ := q
      exact k1 s v o' hq.1 hq.2.1 hq.2.2
/-- The key and the value that were handed out. -/
theorem s_entry {d : Nat} {x : Operand} {it b : Nat} {oi : Obj} {es : Array MapEntry} {clock : Nat} {s : List UInt8} {v : Value} {dn : List (List UInt8)} (m : List UInt8 → Option Value) (hx : opd rs [] env [] x = some (.v (.pointer (some ⟨it, 0, none⟩)))) (hd : Nat.blt d N = true) (hF : F b = some (.map es clock)) (hFi : F it = some oi) (hI : ItIs oi b es clock (s :: dn)) (hM : MapIs es clock m) (hv : m s = some v)
    (k : vcOps P tb N false all rest K [] ⟨(d, .v (.tuple #[S s, v])) :: env, F, rs, nx⟩) :
    vcOps P tb N false all (⟨some d, .entry x, ty, pos, af, none⟩ :: rest) K [] ⟨env, F, rs, nx⟩ := by
  refine s_sem (.v (.tuple #[S s, v])) hd (fun c a w o hs ho => ?_) k
  have ex := opd_eval hs hx
  simp only [EV.val, Option.some.injEq] at ex
  have hb := hs.wok.le _ _ hF
  have hbi := hs.wok.le _ _ hFi
  obtain ⟨since, seen, c0, rfl, i1, hc0, i2, i3, i4⟩ := hI
  obtain ⟨rfl, e, he, hk, hlast⟩ := i4 s dn rfl
  have hev : e.val = v := by
    have := hM.get e he s hk
    rw [hv] at this
    exact (Option.some.inj this).symm
  refine ⟨_, w, ?_, hs, rfl⟩
  simp only [execOp, ho, ← ex]
  have hf : es.find? (·.born == e.born) = some e := by rw [← Array.find?_toList]; exact find_born e es.toList hM.st.2.1 he
  have hrun : (Instr.entry (.pointer (some ⟨it, 0, none⟩))).run P w = .ok (.tuple #[e.key, e.val]) w := by
    simp only [Instr.entry, getObj, Sem.run_bind, Sem.run, hbi, hb, Result.andThen, hlast, bne_self_eq_false, Bool.false_eq_true, if_false, hf]
    rfl
  rw [run_bind, hrun, hk, hev]
  rfl
end
end Go.TR
