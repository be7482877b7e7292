/-
Package wire and its reference: all parts, told with their room; all parts of a long string.
-/
import Derived.Test.YthkmfihbpbehfaaWireGet
import Derived.RangeFuncNested
import Derived.RangeFuncLeaves
import Derived.Test.YthkmfihbpbehfaaSetFwJ
/-!
Package wire and its reference: all parts, told with their room; all parts of a long string.
-/
namespace Go.Proofs.Ythkmfihbpbehfaa
set_option linter.unusedVariables false
set_option linter.unusedSimpArgs false
open Go.TR
attribute [local irreducible] vc vcOps seqK blockK loopK retK retG retI loopV Plain CallOK CallIn bodied VS vcAny dropG backK brK loopPK IntKind.wrap
set_option maxRecDepth 100000
set_option maxHeartbeats 1000000 in
theorem get_okC (s : List UInt8) (hs : s.length ≤ 4611686018427387904) (F : Hp) : CallF Try.prog F 156 [S s] (fun x F' => ∃ p c, x = pair (.slice p (getL s).length c) (i64 (getE s)) ∧ Frow F' p ((getL s).map S) ∧ (getL s).length ≤ c) := by
  refine call_vc (N := 32) (rv := [.tmp 2, .tmp 3]) tbok mixed Try.func156 rfl rfl rfl rfl rfl ?_
  (refine run ?_; repeat intro b)
  refine s_if (decide (600 < s.length)) ?_ (fun h => ?_) (fun h => ?_)
  · refine congrArg (fun b => some (EV.v (.bool b))) ?_
    rw [decide_eq_decide, bl_S]; omega
  · have h2 : 600 < s.length := by simpa using h
    (refine run ?_; repeat intro b)
    have e1 : getL s = [] := by unfold getL; rw [if_pos h2]
    have e2 : getE s = 2 := by unfold getE; rw [if_pos h2]
    refine s_retG (VS.id ⟨_, rfl, rfl, none, 0, ?_, ?_, ?_⟩)
    · rw [e1, e2]; rfl
    · rw [e1]; exact frow_nil _ _
    · rw [e1]; exact Nat.zero_le _
  · have h2 : ¬ 600 < s.length := by simpa using h
    have fail : ∀ x : Option (List (List UInt8)), partsR s = x → (∀ l, x = some l → 60 < l.length) → getL s = [] ∧ getE s = 3 := fun x hx hl => by
      unfold getL getE
      rw [if_neg h2, if_neg h2, hx]
      cases x with
      | none => exact ⟨rfl, rfl⟩
      | some l =>
        have := hl l rfl
        simp only
        rw [if_neg (by omega), if_neg (by omega)]
        exact ⟨rfl, rfl⟩
    (refine run ?_; repeat intro b)
    refine s_loopP (fun q : List (List UInt8) × List UInt8 × Option Nat × Nat × Nat => partsR s = (partsR q.2.1).map (q.1 ++ ·) ∧ 2 * q.1.length + q.2.1.length ≤ s.length ∧ (q.2.2.1 = none → q.2.2.2.1 = 0 ∧ q.2.2.2.2 = 0) ∧ q.2.2.2.1 = q.1.length ∧ q.2.2.2.1 ≤ q.2.2.2.2 ∧ q.1.length ≤ 60)
      (fun q => ⟨[(4, .row 0 0 q.2.2.2.1 q.2.2.2.2), (0, .v (S q.2.1))], F, [(0, ⟨q.2.2.1, (q.1.map S).map EV.v, 9, q.2.2.2.2 * 1⟩)], 1⟩) (fun q => q.2.1.length) ([], s, none, 0, 0) ⟨by simp, by simp, (fun _ => ⟨rfl, rfl⟩), rfl, Nat.le_refl _, by simp⟩ (VS.nilrow 4 9 [0] rfl rfl (VS.id rfl)) ?_
    rintro ⟨out, rest, blk, n, cap⟩ ⟨hI, hlen, hnil, hn, hcap, h60⟩
    dsimp only at hI hlen hnil hn hcap h60 ⊢
    (refine run ?_; repeat intro b)
    refine s_if (!decide (rest = [])) rfl (fun h3 => ?_) (fun h3 => ?_)
    · have h4 : rest ≠ [] := by simpa using h3
      (refine run ?_; repeat intro b)
      refine s_plain _ rfl rfl rfl bd182 rfl (wfirst_ok rest (by omega) F) ?_
      cases hf : firstO rest with
      | none =>
        simp only [firstV, hf]
        (refine run ?_; repeat intro b)
        obtain ⟨e1, e2⟩ := fail none (by rw [hI, partsR_none h4 hf]; rfl) (by simp)
        refine s_retG (VS.dropR [0] rfl (VS.id ⟨_, rfl, rfl, none, 0, ?_, ?_, ?_⟩))
        · rw [e1, e2]; rfl
        · rw [e1]; exact frow_nil _ _
        · rw [e1]; exact Nat.zero_le _
      | some x =>
        obtain ⟨p, r⟩ := x
        simp only [firstV, hf]
        have hlt := firstO_lt hf
        have hst := parts_step hI hf
        (refine run ?_; repeat intro b)
        refine s_if (decide (n = 60)) ?_ (fun h5 => ?_) (fun h5 => ?_)
        · refine congrArg (fun b => some (EV.v (.bool b))) ?_
          rw [Bool.eq_iff_iff]
          simp only [beq_iff_eq, decide_eq_true_eq]
          omega
        · (refine run ?_; repeat intro b)
          obtain ⟨e1, e2⟩ := fail _ hst (fun l hl => by
            rw [Option.map_eq_some_iff] at hl
            obtain ⟨l', _, rfl⟩ := hl
            have : n = 60 := of_decide_eq_true h5
            simp only [List.length_append, List.length_cons]
            omega)
          refine s_retG (VS.dropR [0] rfl (VS.id ⟨_, rfl, rfl, none, 0, ?_, ?_, ?_⟩))
          · rw [e1, e2]; rfl
          · rw [e1]; exact frow_nil _ _
          · rw [e1]; exact Nat.zero_le _
        · have h6 : n ≠ 60 := of_decide_eq_false h5
          (refine run ?_; repeat intro b)
          refine s_appR rfl rfl rfl rfl rfl rfl rfl rfl (src_row rfl rfl) one1 hnil hcap rfl (by simp [hn]) (by show _ * 16 ≤ _; omega) (fun h => by cases h) (fun _ b2 c2 hc2 => ?_)
          (refine run ?_; repeat intro b)
          refine s_loopPq (out ++ [p], r, some b2, n + 1, c2) 0 [(2, 0)] [4, 0] [(0, ⟨some b2, ((out ++ [p]).map S).map EV.v, 9, c2 * 1⟩)]
            ⟨hst, by simp only [List.length_append, List.length_cons, List.length_nil]; omega, (fun h => by cases h), by simp [hn], hc2, by simp only [List.length_append, List.length_cons, List.length_nil]; omega⟩ (by simp only; omega) (Nat.min_le_left _ _)
            ⟨rfl, ⟨_, rfl, rfl, rfl, rfl, .inl ⟨strs_cells out p n hn, fun e he => ?_⟩⟩, trivial⟩ rfl rfl rfl rfl rfl rfl rfl
          have he' : e ∈ ((out.map S).map EV.v).take (n * 1) ++ [.v (S p)] := he
          rw [← strs_cells out p n hn] at he'
          exact strs_plain _ e he'
    · have h4 : rest = [] := by simpa using h3
      subst h4
      (refine run ?_; repeat intro b)
      have hl : partsR s = some out := by rw [hI, partsR_nil]; simp
      have e1 : getL s = out := by unfold getL; rw [if_neg h2, hl]; simp [h60]
      have e2 : getE s = 0 := by unfold getE; rw [if_neg h2, hl]; simp [h60]
      refine s_retG ?_
      cases blk with
      | none =>
        obtain ⟨rfl, rfl⟩ := hnil rfl
        have hout : out = [] := List.eq_nil_of_length_eq_zero hn.symm
        subst hout
        refine VS.nilval 0 [2, 3] rfl rfl (VS.dropR [0] rfl (VS.id ⟨_, rfl, rfl, none, 0, ?_, ?_, ?_⟩))
        · rw [e1, e2]; rfl
        · rw [e1]; exact frow_nil _ _
        · rw [e1]; exact Nat.zero_le _
      | some b0 =>
        refine VS.freeze 0 [2, 3] rfl (allV_map_v _) rfl rfl fun F' hs1 hf1 => VS.id ⟨_, rfl, rfl, some ⟨b0, 0, none⟩, cap, ?_, ?_, ?_⟩
        · rw [e1, e2, ← hn]; rfl
        · rw [e1]; exact hf1
        · rw [e1]; omega
set_option maxHeartbeats 1000000 in
theorem partsread_okL (s : List UInt8) (hs : s.length ≤ 1048576) (F : Hp) : CallF Try.prog F 127 [S s] (fun x F' => ∃ p c, x = pair (.slice p (readL s).length c) (.bool (readOk s)) ∧ Frow F' p ((readL s).map S)) := by
  refine call_vc (N := 28) (rv := [.tmp 2, .tmp 3]) tbok mixed Try.func127 rfl rfl rfl rfl rfl ?_
  (refine run ?_; repeat intro b)
  refine s_loopP (fun q : List (List UInt8) × List UInt8 × Option Nat × Nat × Nat => partsR s = (partsR q.2.1).map (q.1 ++ ·) ∧ 2 * q.1.length + q.2.1.length ≤ s.length ∧ (q.2.2.1 = none → q.2.2.2.1 = 0 ∧ q.2.2.2.2 = 0) ∧ q.2.2.2.1 = q.1.length ∧ q.2.2.2.1 ≤ q.2.2.2.2)
    (fun q => ⟨[(4, .row 0 0 q.2.2.2.1 q.2.2.2.2), (0, .v (S q.2.1))], F, [(0, ⟨q.2.2.1, (q.1.map S).map EV.v, 9, q.2.2.2.2 * 1⟩)], 1⟩) (fun q => q.2.1.length) ([], s, none, 0, 0) ⟨by simp, by simp, (fun _ => ⟨rfl, rfl⟩), rfl, Nat.le_refl _⟩ (VS.nilrow 4 9 [0] rfl rfl (VS.id rfl)) ?_
  rintro ⟨out, rest, blk, n, cap⟩ ⟨hI, hlen, hnil, hn, hcap⟩
  dsimp only at hI hlen hnil hn hcap ⊢
  (refine run ?_; repeat intro b)
  refine s_if (decide (0 < rest.length)) ?_ (fun h3 => ?_) (fun h3 => ?_)
  · refine congrArg (fun b => some (EV.v (.bool b))) ?_
    rw [decide_eq_decide, bl_S]; omega
  · have h4 : rest ≠ [] := by
      rintro rfl
      simp at h3
    (refine run ?_; repeat intro b)
    refine s_plain _ rfl rfl rfl bd160 rfl (partfirst_ok rest (by omega) F) ?_
    cases hf : firstO rest with
    | none =>
      simp only [firstV, hf]
      (refine run ?_; repeat intro b)
      have e0 : partsR s = none := by rw [hI, partsR_none h4 hf]; rfl
      have e1 : readL s = [] := by unfold readL; rw [e0]
      have e2 : readOk s = false := by unfold readOk; rw [e0]
      refine s_retG (VS.dropR [0] rfl (VS.id ⟨_, rfl, rfl, none, 0, ?_, ?_⟩))
      · rw [e1, e2]; rfl
      · rw [e1]; exact frow_nil _ _
    | some x =>
      obtain ⟨p, r⟩ := x
      simp only [firstV, hf]
      have hlt := firstO_lt hf
      have hst := parts_step hI hf
      (refine run ?_; repeat intro b)
      refine s_appR rfl rfl rfl rfl rfl rfl rfl rfl (src_row rfl rfl) one1 hnil hcap rfl (by simp [hn]) (by show _ * 16 ≤ _; omega) (fun h => by cases h) (fun _ b2 c2 hc2 => ?_)
      (refine run ?_; repeat intro b)
      refine s_loopPq (out ++ [p], r, some b2, n + 1, c2) 0 [(2, 0)] [4, 0] [(0, ⟨some b2, ((out ++ [p]).map S).map EV.v, 9, c2 * 1⟩)]
        ⟨hst, by simp only [List.length_append, List.length_cons, List.length_nil]; omega, (fun h => by cases h), by simp [hn], hc2⟩ (by simp only; omega) (Nat.min_le_left _ _)
        ⟨rfl, ⟨_, rfl, rfl, rfl, rfl, .inl ⟨strs_cells out p n hn, fun e he => ?_⟩⟩, trivial⟩ rfl rfl rfl rfl rfl rfl rfl
      have he' : e ∈ ((out.map S).map EV.v).take (n * 1) ++ [.v (S p)] := he
      rw [← strs_cells out p n hn] at he'
      exact strs_plain _ e he'
  · have h4 : rest = [] := by simpa using h3
    subst h4
    (refine run ?_; repeat intro b)
    have hl : partsR s = some out := by rw [hI, partsR_nil]; simp
    have e1 : readL s = out := by unfold readL; rw [hl]
    have e2 : readOk s = decide ((n : Int) ≤ 60) := by unfold readOk; rw [hl, decide_eq_decide]; omega
    refine s_retG ?_
    cases blk with
    | none =>
      obtain ⟨rfl, rfl⟩ := hnil rfl
      have hout : out = [] := List.eq_nil_of_length_eq_zero hn.symm
      subst hout
      refine VS.nilval 0 [2, 3] rfl rfl (VS.dropR [0] rfl (VS.id ⟨_, rfl, rfl, none, 0, ?_, ?_⟩))
      · rw [e1, e2]; rfl
      · rw [e1]; exact frow_nil _ _
    | some b0 =>
      refine VS.freeze 0 [2, 3] rfl (allV_map_v _) rfl rfl fun F' hs1 hf1 => VS.id ⟨_, rfl, rfl, some ⟨b0, 0, none⟩, cap, ?_, ?_⟩
      · rw [e1, e2, ← hn]; rfl
      · rw [e1]; exact hf1
end Go.Proofs.Ythkmfihbpbehfaa
/-!
A small program logic of our own for the model. Part r: code with a hole: up to the hole by the evaluator, from there by hand. Nothing here speaks of one program.
-/
namespace Go.TR
open Go.RowKit (Below)
set_option linter.unusedVariables false
set_option linter.unusedSimpArgs false
variable {P : Program} {tb : Tb} {N : Nat}
def Goes (P : Program) (c : Ctx) (N : Nat) (code : Code) (Q : Exit → Act → World → Prop) (st : St) : Prop := ∀ a w, Sat c N st a w → code.wp P Q a w
def goesK (P : Program) (c : Ctx) (N : Nat) (y : Code) (Q : Exit → Act → World → Prop) : Exit → St → Prop
  | .normal, st => Goes P c N y Q st
  | e, st => ∀ a w, Sat c N st a w → Q e a w
theorem goes_seq (htb : TbOK P tb) (hm : P.follows .mixedOrders = true) {c : Ctx} {x y : Code} {Q : Exit → Act → World → Prop} {st : St} (h : vc P tb N x (goesK P c N y Q) st) : Goes P c N (x.seq y) Q st := fun a w hs => by
  refine wp_seq (wp_mono (vc_sound htb hm c x _ st a w hs h) ?_)
  rintro e a' w' ⟨st', hs', hk⟩
  cases e <;> exact hk a' w' hs'
theorem goesK_n {c : Ctx} {y : Code} {Q : Exit → Act → World → Prop} {st : St} (h : Goes P c N y Q st) : goesK P c N y Q .normal st := h
theorem goes_seqn (htb : TbOK P tb) (hm : P.follows .mixedOrders = true) {c : Ctx} {x y : Code} {Q : Exit → Act → World → Prop} {st : St} (h : vc P tb N x (goesK P c N y Q) st) : goesK P c N (x.seq y) Q .normal st := goes_seq htb hm h
theorem goes_seq2 (htb : TbOK P tb) (hm : P.follows .mixedOrders = true) {c : Ctx} {x y z : Code} {Q : Exit → Act → World → Prop} {st : St} (h : vc P tb N x (goesK P c N y (Exit.then (z.wp P Q) Q)) st) : goesK P c N ((x.seq y).seq z) Q .normal st := fun a w hs =>
  wp_seq (goes_seq htb hm h a w hs)
theorem ret_goes (htb : TbOK P tb) {c : Ctx} {y : Code} {n : Nat} {fn : Func} {x : Value} {st : St} {xs : List Value} (hx : resV tb st fn.results.toList = some xs) (e : tupV xs = x) :
    goesK P c N y (bodyPostM Fence.wide n P fn fun e w' => e = .returned x ∧ Pres [] c.wE w') .ret st := fun a w hs => by
  show LeavesInM _ _ _ _ _ _ a.defers _ _
  rw [hs.defers]
  exact ⟨_, results_ok htb hs hx, by rw [e], hs.wok.pres⟩
/-- A function with a hole in it. -/
theorem plain_goes (n : Nat) {f : FuncId} {fn : Func} {code : Code} (hf : P.funcs[f]? = some fn) (hb : fn.body = some code) {N : Nat} (hn : fn.ntmps = N) {args : List Value} {env : Env} (he : paramEnv 0 args = env) (hN : Nat.ble args.length N = true) {F : Hp} {x : Value}
    (h : ∀ w, F.le w → Goes P ⟨w, F, F, [], 0, 0⟩ N code (bodyPostM Fence.wide n P fn fun e w' => e = .returned x ∧ Pres [] w w') ⟨env, F, [], 0⟩) : Plain P F f args x := by
  intro w hF
  subst hn he
  have hN' : args.length ≤ fn.ntmps := by simpa using hN
  refine (callsIn_wide (n := n)).1 (callsIn_of_wp_marks hf hb trivial ?_ rfl)
  exact wpIn_wide.2 (h w hF _ _ (start_sat hN' hF))
theorem goes_hole {c : Ctx} {code : Code} {Q : Exit → Act → World → Prop} {st : St} (h : ∀ a w, Sat c N st a w → code.wp P Q a w) : Goes P c N code Q st := h
/-- A variable of one cell. -/
theorem sat_boxed {c : Ctx} {env : Env} {F : Hp} {rs : RL} {nx : Nat} {a : Act} {w : World} (h : GSat c N [] ⟨env, F, rs, nx⟩ a w) {id b : Nat} {t : TypeId} {v : Value} (hr : lkR rs id = some ⟨some b, [.v v], t, 1⟩) : w.heap[b]? = some (.cells #[v] t (0, 0)) := by
  have h1 := h.wok.own.own id _ hr
  simp only at h1
  obtain ⟨_, _, cur, g3, g4, g5⟩ := h1
  have g6 := g5 0 (.v v) v rfl rfl
  have : cur = #[v] := by
    apply Array.ext (by simpa using g4)
    intro i h2 h3
    have : i = 0 := by simp at h3; omega
    subst this
    have := (Array.getElem?_eq_some_iff.1 g6).2
    simpa using this
  rw [this] at g3
  exact g3
theorem sat_apart {c : Ctx} {env : Env} {F : Hp} {rs : RL} {nx : Nat} {a : Act} {w : World} (h : GSat c N [] ⟨env, F, rs, nx⟩ a w) {i j b b' : Nat} {r s : Blk} (hi : lkR rs i = some r) (hj : lkR rs j = some s) (hb : r.blk = some b) (hs : s.blk = some b') (hij : i ≠ j) : b ≠ b' := by
  rintro rfl
  exact hij (h.wok.own.apart i j r s b hi hj hb hs)
theorem arr_cons {l : List Value} {n : Nat} (h : l.length = n + 1) : ∃ x t, l = x :: t ∧ t.length = n := by
  cases l with
  | nil => simp at h
  | cons x t => exact ⟨x, t, rfl, by simpa using h⟩
theorem arr_nil {l : List Value} (h : l.length = 0) : l = [] := List.eq_nil_of_length_eq_zero h
/-- Below says what Pres says. -/
theorem pres_of_below {w w' : World} (h : Below w.heap.size w w') : Pres [] w w' := ⟨h.os, h.tape, h.output, h.size, fun k hk _ => h.block k hk⟩
theorem below_of_pres {w w' : World} (h : Pres [] w w') : Below w.heap.size w w' := ⟨h.os, h.tape, h.output, h.size, fun k hk => h.block k hk (by simp)⟩
theorem le_of_below {F : Hp} {w w' : World} {n : Nat} (hF : F.le w) (hn : ∀ k o, F k = some o → k < n) (h : Below n w w') : F.le w' := fun k o e => (h.block k (hn k o e)).trans (hF k o e)
theorem le_lt {F : Hp} {w : World} (hF : F.le w) {k : Nat} {o : Obj} (e : F k = some o) : k < w.heap.size := (Array.getElem?_eq_some_iff.1 (hF k o e)).1
end Go.TR
