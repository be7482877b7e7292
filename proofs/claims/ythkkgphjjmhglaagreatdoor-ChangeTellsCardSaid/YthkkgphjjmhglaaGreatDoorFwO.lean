/-
A small program logic of our own for the model. Part o: append onto a row that begins within its block. Nothing here speaks of one program.
-/
import Derived.Test.YthkkgphjjmhglaaGreatDoorFwL
namespace Go.TR
set_option linter.unusedVariables false
variable {P : Program} {tb : Tb} {N : Nat} {dr : Bool} {all rest : List Oper} {K : GEnv → St → Prop}
theorem run_append_room_off (w : World) (t tx ty e : TypeId) (i : TypeInfo) (ht : P.underlying t = some (.slice e)) (hi : P.info? e = some i) (b off sLen sCap : Nat) (x : Value) (n : Nat) (news : List Value) (hs : Src P i.size tx x n news w)
    (hroom : sLen + n ≤ sCap) {cur : Array Value} {ct : TypeId} (hcur : w.heap[b]? = some (.cells cur ct (0, 0))) (hfit : off + sLen * i.size + news.length ≤ cur.size) :
    (Builtin.append_ #[t, tx] ty #[.slice (some ⟨b, off, none⟩) sLen sCap, x]).run P w = .ok (.slice (some ⟨b, off, none⟩) (sLen + n) sCap) (w.setRow b (cur.toList.take (off + sLen * i.size) ++ news ++ cur.toList.drop (off + sLen * i.size + news.length)).toArray) := by
  have hst := run_storeCells_at (P := P) b (off + sLen * i.size) ct news 0 cur w hcur (by simpa using hfit) hs.one
  simp only [Nat.add_zero] at hst
  have h0 : (⟨b, off, none⟩ : Addr).add (sLen * i.size) = ⟨b, off + sLen * i.size, none⟩ := Addr.add_lit _ _ _
  rcases hs.kind with ⟨e', hk⟩ | hk <;> simp [Builtin.append_, run_underlying ht, run_underlying hk, sizeOf, typeInfo, hi, hs.len, hroom, hs.cells, h0, hst]
/-- append onto a row that may begin within its block: the elements, wherever they lie then, with what lies ahead of them. -/
theorem s_appO {d : Nat} {x y : Operand} {t1 t2 e : TypeId} {ty : TypeId} {pos : String} {af : Array Edge} {env : Env} {F : Hp} {rs rs' : RL} {nx id o n c cap m : Nat} {blk : Option Nat} {cells news : List EV} {ti : TI} (htb : TbOK P tb) (ht : tk tb t1 = some (.slice e)) (ht2 : srcTy (tk tb t2) = true) (hi : tb e = some ti) (h0 : (Nat.blt 0 ti.size && Nat.beq ti.zero.length ti.size) = true)
    (hx : opd rs [] env [] x = some (.row id o n c)) (hr : lkR rs id = some ⟨blk, cells, e, cap⟩) (hrs : forceL (delR rs id) = some rs') (hd : Nat.blt d N = true) (hsrc : SrcIs F rs ti.size (opd rs [] env [] y) m news) (hone : oneAll rs news) (hnl : news.length = m * ti.size) (hm : 0 < m) (hok : blk = none → o = 0 ∧ n = 0 ∧ c = 0) (hcap : o + c * ti.size ≤ cap) (hcl : o + n * ti.size ≤ cells.length)
    (hby : (n + m) * ti.bytes ≤ 140737488355328) (hb0 : (Nat.blt 0 ti.bytes) = true)
    (k : ∀ (b o' c' cap' : Nat) (pre : List EV), pre.length = o' → (∀ e ∈ pre, e ∈ cells) → n + m ≤ c' → o' + c' * ti.size ≤ cap' → vcOps P tb N false all rest K [] ⟨(d, .row nx o' (n + m) c') :: env, F, (nx, ⟨some b, pre ++ ((cells.drop o).take (n * ti.size) ++ news), e, cap'⟩) :: rs', nx + 1⟩) :
    vcOps P tb N false all (⟨some d, .call ⟨.builtin .append, #[x, y], #[t1, t2]⟩, ty, pos, af, none⟩ :: rest) K [] ⟨env, F, rs, nx⟩ := by
  simp only [Bool.and_eq_true, Nat.blt_eq, Nat.beq_eq] at h0 hb0
  obtain ⟨hs0, hz0⟩ := h0
  obtain ⟨i, z, hinfo, hsz, hbyt, hz, hzs⟩ := info_of htb hi
  have hut := und_slice htb ht
  rw [forceL_eq, Option.some.injEq] at hrs
  subst hrs
  have hnm : n + m ≤ (n + m) * ti.bytes := Nat.le_mul_of_pos_right _ hb0
  refine s_semF (ι := { q : Nat × Nat × Nat × List EV × Nat // q.2.2.2.1.length = q.2.1 ∧ (∀ e ∈ q.2.2.2.1, e ∈ cells) ∧ n + m ≤ q.2.2.1 ∧ q.2.1 + q.2.2.1 * ti.size ≤ q.2.2.2.2 }) (fun q => .row nx q.1.2.1 (n + m) q.1.2.2.1) (env := fun _ => env) (F := fun _ => F)
    (rs := fun q => (nx, ⟨some q.1.1, q.1.2.2.2.1 ++ ((cells.drop o).take (n * ti.size) ++ news), e, q.1.2.2.2.2⟩) :: delR rs id) (nx := fun _ => nx + 1) hd (fun c' a w op hs ho => ?_) (fun q => k q.1.1 q.1.2.1 q.1.2.2.1 q.1.2.2.2.2 q.1.2.2.2.1 q.2.1 q.2.2.1 q.2.2.2.1 q.2.2.2.2)
  have ex := opd_eval hs hx
  simp only [EV.val, hr] at ex
  simp only [Option.some.injEq] at ex
  have hsub : ∀ k r, lkR (delR rs id) k = some r → lkR rs k = some r := fun k r hk => by
    rw [lkR_delR] at hk
    split at hk
    · cases hk
    · exact hk
  have hrids := (hs.rids id _ hr).2
  obtain ⟨m', news', vs, ⟨rfl, rfl⟩, s1, s2, s3, s4⟩ := src_ok (P := P) htb hs hs0 ht2 (K := fun m' n' => m' = m ∧ n' = news) (hsrc _ ⟨hone, rfl, rfl⟩)
  simp only at s4
  have hlen : ((cells.drop o).take (n * ti.size)).length = n * ti.size := by rw [List.length_take, List.length_drop]; omega
  by_cases hroom : n + m' ≤ c
  · cases blk with
    | none => obtain ⟨_, _, h3⟩ := hok rfl; omega
    | some b =>
      obtain ⟨g1, g2, cur, g3, g4, g5⟩ := hs.wok.own.own id _ hr
      simp only at g2 g4
      have hcs : n * ti.size + m' * ti.size ≤ c * ti.size := by rw [← Nat.add_mul]; exact Nat.mul_le_mul_right _ hroom
      have hrun := run_append_room_off (P := P) w t1 t2 op.type e i hut hinfo b o n c (a.eval y) m' vs (by rw [hsz]; exact s1) hroom g3 (by rw [hsz, s2, hnl, g4]; omega)
      simp only [Option.map_some] at ex
      rw [ex, hsz] at hrun
      refine ⟨⟨(b, o, c, cells.take o, cap), by simp only [List.length_take]; omega, fun e he => List.mem_of_mem_take he, hroom, hcap⟩, _, _, run_append_op ho rfl rfl hrun, ?_, ?_⟩
      · have hp : Pres [b] w (w.setRow b (cur.toList.take (o + n * ti.size) ++ vs ++ cur.toList.drop (o + n * ti.size + vs.length)).toArray) := ⟨rfl, rfl, rfl, by simp [World.setRow], fun k _ hk => setRow_other w b k _ (by simpa using hk)⟩
        have hcat : cells.take o ++ ((cells.drop o).take (n * ti.size) ++ news') = cells.take (o + n * ti.size) ++ news' := by
          rw [← List.append_assoc]
          congr 1
          rw [List.take_add]
        rw [hcat]
        have hl1 : (cells.take (o + n * ti.size)).length = o + n * ti.size := by rw [List.length_take]; omega
        have hl2 : (cur.toList.take (o + n * ti.size)).length = o + n * ti.size := by rw [List.length_take, Array.length_toList]; omega
        refine renew_sat hs hsub hp (fun y hy => by simpa using hy) g1 (hs.wok.new id _ b hr (.inl rfl)) (fun k r hkr hbr => ?_) (setRow_heap w b cur _ _ _ g3) ?_ ?_ (fun e he => ?_) (fun j e x hj hx => ?_)
        · rw [lkR_delR] at hkr
          split at hkr
          · cases hkr
          · rename_i hne
            exact hne (hs.wok.own.apart k id r _ b hkr hr hbr rfl)
        · show _ = cap
          simp only [List.size_toArray, List.length_append, List.length_take, List.length_drop, Array.length_toList]
          omega
        · show _ ≤ cap
          rw [List.length_append, hl1, hnl]
          omega
        · rcases List.mem_append.1 he with he | he
          · exact hrids e (List.mem_of_mem_take he)
          · exact s3 e he
        · simp only [List.getElem?_toArray]
          rw [List.append_assoc, List.getElem?_append]
          rw [List.getElem?_append] at hj
          rw [hl1] at hj
          rw [hl2]
          split
          · rename_i hlo
            rw [if_pos hlo, List.getElem?_take, if_pos hlo] at hj
            rw [List.getElem?_take, if_pos hlo]
            simpa using g5 j e x hj hx
          · rename_i hlo
            rw [if_neg hlo] at hj
            have := s4 _ e x hj hx
            rw [List.getElem?_append_left (List.getElem?_eq_some_iff.1 this).1]
            exact this
      · simp only [EV.val, lkR_cons, if_true, Option.map_some]
  · have hold : ∃ vs0 : List Value, vs0.length = n * ti.size ∧ (Builtin.firstCells ti.size n (.slice (blk.map fun b => ⟨b, o, none⟩) n c)).run P w.drew = .ok vs0.toArray w.drew ∧ ∀ (j : Nat) (e : EV) (x : Value), ((cells.drop o).take (n * ti.size))[j]? = some e → e.val rs = some x → vs0[j]? = some x := by
      cases blk with
      | none =>
        obtain ⟨h1, h2, h3⟩ := hok rfl
        subst h1 h2 h3
        refine ⟨[], by simp, run_firstCells_none (P := P) w.drew ti.size 0 0 0, fun j e x hj => by simp at hj⟩
      | some b =>
        obtain ⟨vs0, v1, v2, v3⟩ := stretch hs hr rfl (o := o) (k := n * ti.size) (by simpa using hcl)
        refine ⟨vs0, v1, run_firstCells_some (P := P) w.drew ti.size n ⟨b, o, none⟩ n c vs0 v1 (fun j u hj => by rw [Addr.add_lit]; exact v2 j u hj), fun j e x hj hx => v3 j e x (by
          rw [List.drop_take]
          have : o + n * ti.size - o = n * ti.size := by omega
          rw [this]
          exact hj) hx⟩
    obtain ⟨vs0, v1, v2, v3⟩ := hold
    rw [← hsz] at v2
    have hg : c < n + m' := by omega
    have hrun := run_append_grow_src (P := P) w t1 t2 op.type e i z hut hinfo hz (blk.map fun b => ⟨b, o, none⟩) n c vs0 v2 (a.eval y) m' vs (by rw [hsz]; exact s1) hg (by omega) (growslice_fits hg (by rw [hbyt]; exact hby))
    rw [ex] at hrun
    have hge := grownCap_ge w (n + m') c e
    refine ⟨⟨(w.heap.size, 0, grownCap w (n + m') c e, [], grownCap w (n + m') c e * ti.size), rfl, (fun e he => by cases he), hge, by simp only [Nat.zero_add]; exact Nat.le_refl _⟩, _, _, run_append_op ho rfl rfl hrun, ?_, ?_⟩
    · have := grow_sat hs hsub (cells := (cells.drop o).take (n * ti.size) ++ news') (xs := vs0 ++ vs) (rest := Builtin.zeroCells z.cells (grownCap w (n + m') c e - (n + m'))) (e := e) (cap := grownCap w (n + m') c e * ti.size) (by rw [List.length_append, List.length_append, v1, s2, hlen]) (by
        rw [List.length_append, v1, s2, hnl, size_zeroCells, hzs, hz0, ← Nat.add_mul, ← Nat.add_mul]
        congr 1
        omega) (fun e he => by
          rcases List.mem_append.1 he with he | he
          · exact hrids e (List.mem_of_mem_drop (List.mem_of_mem_take he))
          · exact s3 e he) (fun j e x hj hx => by
          rw [List.getElem?_append] at hj ⊢
          rw [hlen] at hj
          rw [v1]
          split
          · rename_i hlo
            rw [if_pos hlo] at hj
            exact v3 j e x hj hx
          · rename_i hlo
            rw [if_neg hlo] at hj
            exact s4 _ e x hj hx)
      simp only [List.nil_append]
      exact this
    · simp only [EV.val, lkR_cons, if_true, Option.map_some]
end Go.TR
