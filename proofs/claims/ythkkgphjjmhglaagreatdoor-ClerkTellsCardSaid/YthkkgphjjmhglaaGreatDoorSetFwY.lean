/-
A small program logic of our own for the model. Part m: make of a slice of any length. Nothing here speaks of one program.
-/
import Derived.Laws.MakeOwn
import Derived.Test.YthkkgphjjmhglaaGreatDoorFwL
import Derived.Test.YthkkgphjjmhglaaGreatDoorFwU
/-!
A small program logic of our own for the model. Part m: make of a slice of any length. Nothing here speaks of one program.
-/
namespace Go.TR
open Go
set_option linter.unusedVariables false
set_option linter.unusedSimpArgs false
section
variable {P : Program} {tb : Tb} {N : Nat} {all rest : List Oper} {K : GEnv → St → Prop}
theorem madeCells_one {z : Array Value} {v : Value} (h : z.toList = [v]) (n : Nat) : (madeCells z n).toList = List.replicate n v := by
  have hz : z = #[v] := by
    apply Array.ext'
    simpa using h
  subst hz
  apply List.ext_getElem
  · simp [madeCells]
  · intro i h1 h2
    simp [madeCells, Nat.mod_one]
/-- make: a row of noughts of the call's own. -/
theorem s_make {d : Nat} {x y : Operand} {t e : TypeId} {ty : TypeId} {pos : String} {af : Array Edge} {env : Env} {F : Hp} {rs : RL} {nx n : Nat} {ti : TI} {kl kc : IntKind} (htb : TbOK P tb) (ht : tk tb t = some (.slice e)) (hi : tb e = some ti)
    (hx : opd rs [] env [] x = some (.v (.int kl (n : Nat)))) (hy : opd rs [] env [] y = some (.v (.int kc (n : Nat)))) (hd : Nat.blt d N = true) (hb : n * ti.bytes ≤ 281474976710656) (h63 : n ≤ 9223372036854775807)
    (k : ∀ b (vs : List Value), vs.length = n * ti.size → (∀ v, ti.zero = [v] → vs = List.replicate (n * ti.size) v) → vcOps P tb N false all rest K [] ⟨(d, .row nx 0 n n) :: env, F, (nx, ⟨some b, vs.map .v, e, n * ti.size⟩) :: rs, nx + 1⟩) :
    vcOps P tb N false all (⟨some d, .makeSlice t x y, ty, pos, af, none⟩ :: rest) K [] ⟨env, F, rs, nx⟩ := by
  obtain ⟨i, hinfo, hsz, hby, z, hz, hzl⟩ := (htb e ti hi).info
  have hut := und_slice htb ht
  refine s_semF (ι := { q : Nat × List Value // q.2.length = n * ti.size ∧ ∀ v, ti.zero = [v] → q.2 = List.replicate (n * ti.size) v }) (fun _ => .row nx 0 n n) (env := fun _ => env) (F := fun _ => F) (rs := fun q => (nx, ⟨some q.1.1, q.1.2.map .v, e, n * ti.size⟩) :: rs) (nx := fun _ => nx + 1) hd (fun c' a w o hs ho => ?_) (fun q => k q.1.1 q.1.2 q.2.1 q.2.2)
  have ex := opd_eval hs hx
  have ey := opd_eval hs hy
  simp only [EV.val, Option.some.injEq] at ex ey
  have hbi : ((i.bytes : Nat) : Int) * ((n : Nat) : Int) ≤ 281474976710656 := by
    rw [hby, ← Int.natCast_mul, Nat.mul_comm]
    omega
  have hrun := run_make (P := P) w t e i z hut hinfo hz kl kc (n : Int) (n : Int) (by omega) (Int.le_refl _) hbi (by omega)
  rw [ex, ey] at hrun
  simp only [Int.toNat_natCast, hsz] at hrun
  have hml : (madeCells z.cells (n * ti.size)).toList.length = n * ti.size := by rw [Array.length_toList, size_madeCells]
  refine ⟨⟨(w.heap.size, (madeCells z.cells (n * ti.size)).toList), hml, fun v hv => madeCells_one (by rw [hzl]; exact hv) _⟩, .slice (some ⟨w.heap.size, 0, none⟩) n n, w.alloc (.cells (madeCells z.cells (n * ti.size)) e), ?_, ?_, ?_⟩
  · simp only [execOp, ho]
    simp [hrun]
  · have := alloc_sat hs (cells := (madeCells z.cells (n * ti.size)).toList.map EV.v) (cs := madeCells z.cells (n * ti.size)) (t := e) (by simp) (fun e he => by
      obtain ⟨v, _, rfl⟩ := List.mem_map.1 he
      trivial) (fun j e x hj hx => by
      rw [List.getElem?_map, Option.map_eq_some_iff] at hj
      obtain ⟨v, h2, rfl⟩ := hj
      simp only [EV.val, Option.some.injEq] at hx
      rw [← hx]
      simpa using h2)
    rw [List.length_map, hml] at this
    exact this
  · simp [EV.val, lkR_cons]
end
end Go.TR
/-!
A small program logic of our own for the model. Part y: young slices of the frozen part that grow yet. Nothing here speaks of one program.
-/
namespace Go.TR
open Go
set_option linter.unusedVariables false
set_option linter.unusedSimpArgs false
variable {P : Program} {tb : Tb} {N : Nat} {all rest : List Oper} {K : GEnv → St → Prop}
section
variable {env : Env} {F : Hp} {rs : RL} {nx : Nat} {ty : TypeId} {pos : String} {af : Array Edge}
/-- append onto a young slice of the frozen part: in its own block, or in a new one. -/
theorem s_appY {d : Nat} {x y : Operand} {t1 t2 e : TypeId} {p : Option Addr} {n c m b0 id : Nat} {r : Blk} {o0 : Obj} {cs vs : List Value} {ti : TI} (htb : TbOK P tb) (ht : tk tb t1 = some (.slice e)) (ht2 : srcTy (tk tb t2) = true) (hi : tb e = some ti) (h0 : (Nat.blt 0 ti.size && Nat.beq ti.zero.length ti.size && Nat.blt 0 ti.bytes) = true)
    (hx : opd rs [] env [] x = some (.v (.slice p n c))) (hd : Nat.blt d N = true) (hsrc : SrcIs F rs ti.size (opd rs [] env [] y) m (vs.map .v)) (hone : oneAll rs (vs.map .v)) (hm : 0 < m) (hnl : vs.length = m * ti.size) (hb : (n + m) * ti.bytes ≤ 140737488355328)
    (hr : lkR rs id = some r) (hb0 : r.at b0) {b1 : Nat} (hF1 : F b1 = some o0) (h01 : b0 ≤ b1) (hp : SlAt F e ti.size p n c cs) (hyoung : ∀ b, p = some ⟨b, 0, none⟩ → b0 ≤ b)
    (k : ∀ b' c' o', (p = some ⟨b', 0, none⟩ ∨ F b' = none ∧ b0 < b') → SlAt (F.plus b' o') e ti.size (some ⟨b', 0, none⟩) (n + m) c' (cs ++ vs) → vcOps P tb N false all rest K [] ⟨(d, .v (.slice (some ⟨b', 0, none⟩) (n + m) c')) :: env, F.plus b' o', rs, nx⟩) :
    vcOps P tb N false all (⟨some d, .call ⟨.builtin .append, #[x, y], #[t1, t2]⟩, ty, pos, af, none⟩ :: rest) K [] ⟨env, F, rs, nx⟩ := by
  simp only [Bool.and_eq_true, Nat.blt_eq, Nat.beq_eq] at h0
  obtain ⟨⟨hs0, hz0⟩, hby0⟩ := h0
  obtain ⟨i, z, hinfo, hsz, hby, hz, hzs⟩ := info_of htb hi
  have hut := und_slice htb ht
  have hnm : n + m ≤ (n + m) * ti.bytes := Nat.le_mul_of_pos_right _ hby0
  obtain ⟨p1, p2, p3⟩ := hp
  refine s_semF (ι := { q : Nat × Nat × Obj // (p = some ⟨q.1, 0, none⟩ ∨ F q.1 = none ∧ b0 < q.1) ∧ SlAt (F.plus q.1 q.2.2) e ti.size (some ⟨q.1, 0, none⟩) (n + m) q.2.1 (cs ++ vs) }) (fun q => .v (.slice (some ⟨q.1.1, 0, none⟩) (n + m) q.1.2.1)) (env := fun _ => env) (F := fun q => F.plus q.1.1 q.1.2.2) (rs := fun _ => rs) (nx := fun _ => nx) hd (fun c' a w o hs ho => ?_) (fun q => k q.1.1 q.1.2.1 q.1.2.2 q.2.1 q.2.2)
  have ex := opd_eval hs hx
  simp only [EV.val, Option.some.injEq] at ex
  obtain ⟨m', news', vs', ⟨rfl, rfl⟩, s1, s2, s3, s4⟩ := src_ok (P := P) htb hs hs0 ht2 (K := fun m' n' => m' = m ∧ n' = vs.map .v) (hsrc _ ⟨hone, rfl, rfl⟩)
  have hvs : vs' = vs := by
    apply List.ext_getElem?
    intro j
    rw [List.length_map] at s2
    by_cases hj : j < vs.length
    · have := s4 j (.v vs[j]) vs[j] (by rw [List.getElem?_map, List.getElem?_eq_getElem hj]; rfl) rfl
      rw [this, List.getElem?_eq_getElem hj]
    · rw [List.getElem?_eq_none (by omega), List.getElem?_eq_none (by omega)]
  subst hvs
  have hslat : ∀ {b' cap' : Nat} {cur : Array Value}, n + m' ≤ cap' → cur.size = cap' * ti.size → cur.toList.take ((n + m') * ti.size) = cs ++ vs' → SlAt (F.plus b' (.cells cur e (0, 0))) e ti.size (some ⟨b', 0, none⟩) (n + m') cap' (cs ++ vs') := fun {b' cap' cur} h1 h2 h3 => by
    refine ⟨by rw [List.length_append, p1, hnl, ← Nat.add_mul], h1, .inr ⟨b', cur, rfl, ?_, h2, h3⟩⟩
    show (if b' = b' then some _ else F b') = _
    rw [if_pos rfl]
  have hgrow : c < n + m' → (Builtin.firstCells i.size n (.slice p n c)).run P w.drew = .ok cs.toArray w.drew → ∃ (q : { q : Nat × Nat × Obj // (p = some ⟨q.1, 0, none⟩ ∨ F q.1 = none ∧ b0 < q.1) ∧ SlAt (F.plus q.1 q.2.2) e ti.size (some ⟨q.1, 0, none⟩) (n + m') q.2.1 (cs ++ vs') }) (v : Value) (w' : World), (execOp a.eval o).run P w = .ok (.value v) w' ∧ GSat c' N [] ⟨env, F.plus q.1.1 q.1.2.2, rs, nx⟩ a w' ∧ (EV.v (.slice (some ⟨q.1.1, 0, none⟩) (n + m') q.1.2.1)).val rs = some v := fun hg hold => by
    have hrun := run_append_grow_src w t1 t2 o.type e i z hut hinfo hz p n c cs hold (a.eval y) m' vs' (by rw [hsz]; exact s1) hg (by omega) (growslice_fits hg (by rw [hby]; exact hb))
    have hge := grownCap_ge w (n + m') c e
    rw [ex] at hrun
    obtain ⟨f1, f2⟩ := fresh_sat (GSat.drewN hs) (.cells ((cs ++ vs').toArray ++ Builtin.zeroCells z.cells (grownCap w (n + m') c e - (n + m'))) e)
    have hzl : (Builtin.zeroCells z.cells (grownCap w (n + m') c e - (n + m'))).size = (grownCap w (n + m') c e - (n + m')) * ti.size := by rw [size_zeroCells, hzs, hz0]
    refine ⟨⟨(w.heap.size, grownCap w (n + m') c e, .cells ((cs ++ vs').toArray ++ Builtin.zeroCells z.cells (grownCap w (n + m') c e - (n + m'))) e), .inr ⟨f1, Nat.lt_of_le_of_lt h01 (lt_of_some (hs.wok.le _ _ hF1))⟩, hslat hge ?_ ?_⟩, _, _, run_append_op ho rfl rfl hrun, f2, rfl⟩
    · rw [Array.size_append, List.size_toArray, List.length_append, p1, hnl, hzl, ← Nat.add_mul, ← Nat.add_mul]
      congr 1
      dsimp only
      omega
    · rw [Array.toList_append, List.take_append_of_le_length (by simp only [List.length_append, p1, hnl, ← Nat.add_mul]; exact Nat.le_refl _)]
      exact List.take_of_length_le (by simp only [List.length_append, p1, hnl, ← Nat.add_mul]; exact Nat.le_refl _)
  rcases p3 with ⟨rfl, rfl, rfl⟩ | ⟨b, cur, rfl, q1, q2, q3⟩
  · have hcs : cs = [] := List.eq_nil_of_length_eq_zero (by rw [p1, Nat.zero_mul])
    subst hcs
    exact hgrow (by omega) (run_firstCells_none _ _ _ _ _)
  · have hcur := hs.wok.le _ _ q1
    by_cases hroom : n + m' ≤ c
    · have hfit : n * ti.size + vs'.length ≤ cur.size := by
        rw [q2, hnl, ← Nat.add_mul]
        exact Nat.mul_le_mul_right _ hroom
      have hrun := run_append_room_at (P := P) w t1 t2 o.type e i hut hinfo b n c (a.eval y) m' vs' (by rw [hsz]; exact s1) hroom hcur (by rw [hsz]; exact hfit)
      rw [ex, hsz] at hrun
      have hp : Pres [b] w (w.setRow b (cur.toList.take (n * ti.size) ++ vs' ++ cur.toList.drop (n * ti.size + vs'.length)).toArray) := ⟨rfl, rfl, rfl, by simp [World.setRow], fun k _ hk => setRow_other w b k _ (by simpa using hk)⟩
      refine ⟨⟨(b, c, .cells (cur.toList.take (n * ti.size) ++ vs' ++ cur.toList.drop (n * ti.size + vs'.length)).toArray e), .inl rfl, hslat hroom ?_ ?_⟩, _, _, run_append_op ho rfl rfl hrun, turn_sat hs hr hb0 (hyoung b rfl) q1 hp (setRow_heap w b cur _ _ _ hcur), rfl⟩
      · simp only [List.size_toArray, List.length_append, List.length_take, List.length_drop, Array.length_toList]
        omega
      · simp only [q3]
        rw [List.take_append_of_le_length (by rw [List.length_append, p1, hnl, ← Nat.add_mul]; exact Nat.le_refl _)]
        exact List.take_of_length_le (by rw [List.length_append, p1, hnl, ← Nat.add_mul]; exact Nat.le_refl _)
    · refine hgrow (by omega) ?_
      rw [hsz]
      refine run_firstCells_some (P := P) w.drew ti.size n ⟨b, 0, none⟩ n c cs p1 fun j u hj => ?_
      have hj' : j < n * ti.size := by rw [← p1]; exact (List.getElem?_eq_some_iff.1 hj).1
      rw [← q3, List.getElem?_take, if_pos hj'] at hj
      rw [addr_add0]
      show w.cell? _ = some u
      simp only [World.cell?, hcur]
      simpa using hj

end
theorem vals_lt (l : List Value) {n : Nat} : ∀ e ∈ l.map EV.v, EV.lt n e := fun e he => by
  obtain ⟨x, _, rfl⟩ := List.mem_map.1 he
  trivial
/-- A number below all blocks of the call's own is kept in mind. -/
theorem VS.mark {env : Env} {F : Hp} {rs : RL} {nx : Nat} {G : St → Prop} (k : ∀ b0, (∀ id r b, lkR rs id = some r → r.blk = some b → b0 ≤ b) → VS N [] ⟨env, F, (nx, Go.TR.mark b0) :: rs, nx + 1⟩ G) : VS N [] ⟨env, F, rs, nx⟩ G := fun c a w hs =>
  k c.wE.heap.size (fun id r b h1 h2 => hs.wok.new id r b h1 (.inl h2)) c a w (mark_sat hs (Nat.le_refl _))
/-- A block is frozen, and it is told whole. -/
theorem VS.freezeA {env env' : Env} {F : Hp} {rs rs' : RL} {nx : Nat} {G : St → Prop} (id : Nat) {b size n c : Nat} {cells : List EV} {ty : TypeId} {cap : Nat} {cs : List Value} (slots : List Nat) (hr : lkR rs id = some ⟨some b, cells, ty, cap⟩) (hcs : allV rs cells = some cs) (hrs : forceL (frzR b id rs) = some rs') (henv : Go.TR.keepN (frzN b id env) slots = some env')
    (hcap : cap = c * size) (hn : cs.length = n * size) (hnc : n ≤ c) (h0 : 0 < cs.length)
    (k : ∀ F', F.sub F' → SlAt F' ty size (some ⟨b, 0, none⟩) n c cs → F b = none → VS N [] ⟨env', F', rs', nx⟩ G) : VS N [] ⟨env, F, rs, nx⟩ G := by
  intro cx a w hs
  obtain ⟨F', h1, h2, h3⟩ := freeze_sat hs hr rfl hcs
  rw [forceL_eq, Option.some.injEq] at hrs
  subst hrs
  obtain ⟨o1, o2, cur, o3, o4, o5⟩ := hs.wok.own.own id _ hr
  obtain ⟨hl, hg⟩ := allV_spec hcs
  have hcell := h2 0 cs[0] (List.getElem?_eq_getElem h0)
  have hF : F' b = some (.cells cur ty (0, 0)) := by
    simp only [padd, Option.map_some, Pcell, Option.bind_some, addr_add0, Fcell] at hcell
    cases hb : F' b with
    | none => rw [hb] at hcell; cases hcell
    | some o =>
      have h4 : w.heap[b]? = some o := h3.wok.le b o hb
      rw [o3] at h4
      exact h4.symm
  have hsz : n * size ≤ cur.size := by rw [o4, hcap]; exact Nat.mul_le_mul_right _ hnc
  refine k F' h1 ⟨hn, hnc, .inr ⟨b, cur, rfl, hF, by rw [o4, hcap], ?_⟩⟩ o1 cx a w (keepN_sat henv h3)
  apply List.ext_getElem?
  intro j
  by_cases hj : j < n * size
  · rw [List.getElem?_take, if_pos hj]
    have hjc : j < cs.length := by rw [hn]; exact hj
    rw [List.getElem?_eq_getElem hjc]
    obtain ⟨e, he, hx⟩ := hg j cs[j] (List.getElem?_eq_getElem hjc)
    have := o5 j e cs[j] he hx
    simpa using this
  · rw [List.getElem?_eq_none (by rw [List.length_take, Array.length_toList]; omega), List.getElem?_eq_none (by omega)]
end Go.TR
