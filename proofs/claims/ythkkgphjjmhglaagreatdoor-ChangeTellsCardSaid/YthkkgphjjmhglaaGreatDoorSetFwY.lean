/-
Package path: Sort, Bit, Common: the walks.
-/
import Derived.Test.YthkkgphjjmhglaaGreatDoorSetIdx
import Derived.Test.YthkkgphjjmhglaaGreatDoorSetFwK
import Derived.Test.YthkkgphjjmhglaaGreatDoorFwN
import Derived.Laws.MakeOwn
import Derived.Test.YthkkgphjjmhglaaGreatDoorFwL
import Derived.Test.YthkkgphjjmhglaaGreatDoorFwU
/-!
Package path: Sort, Bit, Common: the walks.
-/
namespace Go.Proofs.YthkkgphjjmhglaaGreatDoor
set_option linter.unusedVariables false
set_option linter.unusedSimpArgs false
open Go.TR
def sortE (l : List (List UInt8)) : Int := if l.any (fun s => !goodName s) = true then 3 else 0
def sortO (l : List (List UInt8)) : List (List UInt8) := if sortE l = 0 then ordN l else []
theorem str_one' (l : List (List UInt8)) : ∀ x ∈ l.map S, Go.TR.one (.v x) = true := fun x hx => by
  obtain ⟨s, _, rfl⟩ := List.mem_map.1 hx
  rfl
theorem sort_some {l : List (List UInt8)} : Lib.compact (sortN l) = ordN l := sort_compact l
attribute [local irreducible] vc vcOps seqK blockK loopK retK retG retI loopV Plain CallOK CallIn bodied VS vcAny dropG backK brK loopPK IntKind.wrap
attribute [local irreducible] sortN ordN goodName pathN commonN
set_option maxRecDepth 100000
set_option maxHeartbeats 4000000
/-- slices.Clone: a row of the caller's own. -/
theorem clone_nm (cs : List Value) (n : Nat) {p : Option Addr} {c : Nat} {F : Hp} (hl : cs.length = n * 1) (hf : Frow F p cs) (h1 : ∀ x ∈ cs, Go.TR.one (.v x) = true) (hb : n * 16 ≤ 140737488355328) : CallOK Tryz.prog F 157 [.slice p n c] (fun x _ new => RowBack 9 1 cs n x new) := by
  refine call_vc (N := 8) (rv := [.tmp 2]) tbok mixed Tryz.func157 rfl rfl rfl rfl rfl ?_
  (refine run ?_; repeat intro b)
  refine s_snil (b := p.isNone) tbok rfl rfl rfl ?_
  cases p with
  | none =>
    have hn : n = 0 := by
      rcases Nat.eq_zero_or_pos n with h | h
      · exact h
      · have := frow_some hf (j := 0) (by rw [hl]; omega)
        cases this
    subst hn
    (refine run ?_; repeat intro b)
    refine s_retG (VS.id ⟨_, rfl, .inl ⟨rfl, rfl, none, rfl⟩⟩)
  | some a =>
    (refine run ?_; repeat intro b)
    refine s_appR rfl rfl rfl rfl rfl rfl rfl rfl (src_frz hl hf) (one_v _ h1) (fun h => by cases h) (Nat.le_refl 0) rfl (Nat.zero_le _) (by show (0 + n) * 16 ≤ _; omega) (fun hn => ?_) (fun hn b2 c2 hc2 => ?_)
    · subst hn
      (refine run ?_; repeat intro b)
      refine s_retG ?_
      refine VS.freeze 0 [2] rfl (cs := []) rfl rfl rfl fun F' hs1 hf1 => VS.id ⟨_, rfl, .inl ⟨rfl, rfl, _, rfl⟩⟩
    · (refine run ?_; repeat intro b)
      simp only [Nat.zero_add] at hc2 ⊢
      refine s_retGf (VSf.ren (nx' := 1) [(1, 0)] [2] [(0, ⟨some b2, cs.map EV.v, 9, c2 * 1⟩)] ⟨rfl, ⟨_, rfl, rfl, rfl, rfl, .inl ⟨rfl, fun e he => all_v _ e he⟩⟩, trivial⟩ rfl rfl rfl rfl rfl rfl ⟨_, rfl, .inr ⟨hn, b2, c2, hc2, rfl, rfl⟩⟩)
theorem notname_ok (s : List UInt8) (hs : s.length ≤ 4611686018427387904) (F : Hp) : Plain Tryz.prog F 156 [S s] (.bool (!goodName s)) := by
  refine plain_vc (N := 6) (rv := [.tmp 2]) tbok mixed Tryz.func156 rfl rfl rfl rfl rfl ?_
  (refine run ?_; repeat intro b)
  refine s_plain _ rfl rfl rfl bd129 rfl (name_ok s hs F) ?_
  (refine run ?_; repeat intro b)
  rfl
theorem pathsort_ok (l : List (List UInt8)) (hn : l.length * 16 ≤ 140737488355328) (hs : ∀ s ∈ l, s.length ≤ 4611686018427387904) {p : Option Addr} {c : Nat} {F : Hp} (hf : Frow F p (l.map S)) : CallF Tryz.prog F 122 [.slice p l.length c] (fun x F' => ∃ p' c', x = pair (.slice p' (sortO l).length c') (i64 (sortE l)) ∧ Frow F' p' ((sortO l).map S)) := by
  refine call_vc (N := 13) (rv := [.tmp 2, .tmp 3]) tbok mixed Tryz.func122 rfl rfl rfl rfl rfl ?_
  (refine run ?_; repeat intro b)
  refine s_plain _ rfl rfl rfl bd155 rfl (strs_has (fun s => !goodName s) 156 #[] bd156 l hf (by omega) (fun x hx => notname_ok x (hs x hx) F)) ?_
  (refine run ?_; repeat intro b)
  refine s_if (l.any fun s => !goodName s) rfl (fun h => ?_) (fun h => ?_)
  · have e1 : sortE l = 3 := if_pos h
    have e2 : sortO l = [] := by unfold sortO; rw [if_neg (by rw [e1]; decide)]
    rw [e1, e2]
    (refine run ?_; repeat intro b)
    exact s_retG (VS.id ⟨_, rfl, rfl, none, 0, rfl, frow_nil _ _⟩)
  · have e1 : sortE l = 0 := if_neg (by rw [h]; decide)
    have e2 : sortO l = ordN l := by unfold sortO; rw [if_pos e1]
    rw [e1, e2]
    (refine run ?_; repeat intro b)
    refine s_callR (R := fun _ cs => cs = l.map S) (fun x F' new h => ⟨_, h, rfl⟩) rfl rfl rfl bd157 rfl (clone_nm (l.map S) l.length (by rw [List.length_map, Nat.mul_one]) hf (str_one' _) hn) (fun hk0 F1 p1 cs hF1 hcs => ?_) (fun hk1 F1 b1 c1 cs hF1 hc1 hcs => ?_)
    · have hnil : l = [] := List.eq_nil_of_length_eq_zero hk0
      subst hnil
      have e3 : ordN [] = [] := by unfold ordN; rfl
      (refine run ?_; repeat intro b)
      refine s_plain _ rfl rfl rfl bd158 rfl (sort0_ok _ _ F1) ?_
      (refine run ?_; repeat intro b)
      refine s_plain _ rfl rfl rfl bd162 rfl (compact0_ok _ _ F1) ?_
      (refine run ?_; repeat intro b)
      rw [e3]
      exact s_retG (VS.id ⟨_, rfl, rfl, _, _, rfl, frow_nil _ _⟩)
    · subst hcs
      have hsl := sortN_len l
      (refine run ?_; repeat intro b)
      refine s_in rfl rfl rfl bd158 rfl (sortfn_in l hs (by omega) rfl) ?_
      rintro _ F2 _ _ _ _ ⟨rfl, e2, rfl, rfl⟩
      rw [e2]
      clear e2
      have hci := compact_in (sortN l) (by omega) (F := F1) (rs := setR [(0, ⟨some b1, (l.map S).map EV.v, 9, c1 * 1⟩)] 0 ⟨some b1, ((sortN l).map S).map .v, 9, c1 * 1⟩) (nx := 1) (id := 0) (b := b1) (cap := c1 * 1) (c := c1) (ty := 9) (by omega) rfl
      rw [hsl, sort_some] at hci
      generalize ordN l = o at hci
      (refine run ?_; repeat intro b)
      refine s_in rfl rfl rfl bd162 rfl hci ?_
      rintro _ _ _ _ _ _ ⟨rfl, rfl, rfl, rfl⟩
      (refine run ?_; repeat intro b)
      refine s_retG ?_
      refine VS.freeze 0 [2, 3] rfl (cs := (o ++ List.replicate (l.length - o.length) []).map S) (allV_map_v _) rfl rfl fun F' hs1 hf1 => VS.id ⟨_, rfl, rfl, _, _, rfl, ?_⟩
      have := frow_take hf1 (o.map S).length
      rwa [List.map_append, List.take_left] at this
def bitE (p : List UInt8) (k : Int) : Int := if p.length = 16 ∧ p.all (inS [48, 49]) = true then (if 0 ≤ k ∧ k ≤ 15 then 0 else 4) else 3
def bitO (p : List UInt8) (k : Int) : Int := if bitE p k = 0 then (((p.getD k.toNat 0).toNat : Nat) : Int) - 48 else 0
end Go.Proofs.YthkkgphjjmhglaaGreatDoor
/-!
A small program logic of our own for the model. Part m: make of a slice of any length. Nothing here speaks of one program.
-/
namespace Go.TR
open Go
set_option linter.unusedVariables false
set_option linter.unusedSimpArgs false
section
variable {P : Program} {tb : Tb} {N : Nat} {all rest : List Oper} {K : GEnv → St → Prop}
end
end Go.TR
/-!
A small program logic of our own for the model. Part y: young slices of the frozen part that grow yet. Nothing here speaks of one program.
-/
namespace Go.TR
open Go
set_option linter.unusedVariables false
set_option linter.unusedSimpArgs false
variable {P : Program} {tb : Tb} {N : Nat} {all rest : List Oper} {K : GEnv → St → Prop}
section
variable {env : Env} {F : Hp} {rs : RL} {nx : Nat} {ty : TypeId} {pos : String} {af : Array Edge}

end
/-- A number below all blocks of the call's own is kept in mind. -/
theorem VS.mark {env : Env} {F : Hp} {rs : RL} {nx : Nat} {G : St → Prop} (k : ∀ b0, (∀ id r b, lkR rs id = some r → r.blk = some b → b0 ≤ b) → VS N [] ⟨env, F, (nx, Go.TR.mark b0) :: rs, nx + 1⟩ G) : VS N [] ⟨env, F, rs, nx⟩ G := fun c a w hs =>
  k c.wE.heap.size (fun id r b h1 h2 => hs.wok.new id r b h1 (.inl h2)) c a w (mark_sat hs (Nat.le_refl _))
/-- A block is frozen, and it is told whole. -/
theorem VS.freezeA {env env' : Env} {F : Hp} {rs rs' : RL} {nx : Nat} {G : St → Prop} (id : Nat) {b size n c : Nat} {cells : List EV} {ty : TypeId} {cap : Nat} {cs : List Value} (slots : List Nat) (hr : lkR rs id = some ⟨some b, cells, ty, cap⟩) (hcs : allV rs cells = some cs) (hrs : forceL (frzR b id rs) = some rs') (henv : Go.TR.keepN (frzN b id env) slots = some env')
    (hcap : cap = c * size) (hn : cs.length = n * size) (hnc : n ≤ c) (h0 : 0 < cs.length)
    (k : ∀ F', F.sub F' → SlAt F' ty size (some ⟨b, 0, none⟩) n c cs → F b = none → VS N [] ⟨env', F', rs', nx⟩ G) : VS N [] ⟨env, F, rs, nx⟩ G := by
  intro cx a w hs
  obtain ⟨F', h1, h2, h3⟩ := freeze_sat hs hr rfl hcs
  rw [forceL_eq, Option.some.injEq] at hrs
  subst hrs
  obtain ⟨o1, o2, cur, o3, o4, o5⟩ := hs.wok.own.own id _ hr
  obtain ⟨hl, hg⟩ := allV_spec hcs
  have hcell := h2 0 cs[0] (List.getElem?_eq_getElem h0)
  have hF : F' b = some (.cells cur ty (0, 0)) := by
    simp only [padd, Option.map_some, Pcell, Option.bind_some, addr_add0, Fcell] at hcell
    cases hb : F' b with
    | none => rw [hb] at hcell; cases hcell
    | some o =>
      have h4 : w.heap[b]? = some o := h3.wok.le b o hb
      rw [o3] at h4
      exact h4.symm
  have hsz : n * size ≤ cur.size := by rw [o4, hcap]; exact Nat.mul_le_mul_right _ hnc
  refine k F' h1 ⟨hn, hnc, .inr ⟨b, cur, rfl, hF, by rw [o4, hcap], ?_⟩⟩ o1 cx a w (keepN_sat henv h3)
  apply List.ext_getElem?
  intro j
  by_cases hj : j < n * size
  · rw [List.getElem?_take, if_pos hj]
    have hjc : j < cs.length := by rw [hn]; exact hj
    rw [List.getElem?_eq_getElem hjc]
    obtain ⟨e, he, hx⟩ := hg j cs[j] (List.getElem?_eq_getElem hjc)
    have := o5 j e cs[j] he hx
    simpa using this
  · rw [List.getElem?_eq_none (by rw [List.length_take, Array.length_toList]; omega), List.getElem?_eq_none (by omega)]
end Go.TR
