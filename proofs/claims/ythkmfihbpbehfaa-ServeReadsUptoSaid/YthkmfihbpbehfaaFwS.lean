/-
A small program logic of our own for the model. Part s: code within a round of a range over a function; the range itself. Nothing here speaks of one program.
-/
import Derived.RangeFuncNested
import Derived.RangeFuncBound
import Derived.RangeFuncCalls
import Derived.RangeFuncLeaves
import Derived.OrdersIn
import Derived.TacticsIn
import Derived.TacticsInMore
import Derived.Test.YthkmfihbpbehfaaSetFwR
namespace Go.TR
open Go.RowKit (Below)
set_option linter.unusedVariables false
set_option linter.unusedSimpArgs false
variable {P : Program} {tb : Tb} {N : Nat}
/-- Any world of calls, in a round or not. -/
def FR (ro : Option Nat) : Fence := { Fence.wide with round := ro }
def noDef (l : List Oper) : Bool := l.all fun o => match o.op with
  | .defer _ => false
  | _ => true
theorem noDef_mem {l : List Oper} (h : noDef l = true) {o : Oper} (ho : o ∈ l) : ∀ c, o.op ≠ .defer c := fun c e => by
  have := List.all_eq_true.1 h o ho
  rw [e] at this
  cases this
theorem callsIn_R {ro : Option Nat} {n : Nat} {f : FuncId} {args : Array Value} {w : World} {R : Ending → World → Prop} (h : Calls P f args w R) : CallsIn (FR ro) n P f args w R := by
  have h1 : CallsIn Fence.wide n P f args w R := callsIn_wide.2 h
  exact h1
theorem rowsIn_R {ro : Option Nat} {n : Nat} {row : String} {args : Array Value} {w : World} {R : Value → World → Prop} (h : Rows P row args w R) : RowsIn (FR ro) n P row args w R := fun c cs _ => by
  obtain ⟨v, w', r, s⟩ := h c cs
  have s' : StepsIn (Machine.fenced P Fence.wide) P _ _ := stepsIn_wide.2 s
  exact ⟨v, w', r, s'⟩
theorem oper_R {ro : Option Nat} {n : Nat} {o : Oper} {a : Act} {w : World} {next : Act → World → Prop} {Q : Exit → Act → World → Prop} (hd : ∀ c, o.op ≠ .defer c) (h : o.wp P a w next Q) : o.wpIn (FR ro) n P a w next Q := by
  unfold Oper.wp at h
  unfold Oper.wpIn
  refine ⟨fun f _ => trivial, ?_⟩
  rw [Oper.semAt_eq _ _ _ hd]
  generalize (execOp a.eval o).run P w = r at h
  have hno : (FR ro).depth.isSome = true → 1 ≤ n := fun hh => by simp [FR, Fence.wide] at hh
  cases r with
  | ok x w' =>
    cases x with
    | enter f args => exact ⟨hno, callsIn_R h⟩
    | row f args => exact ⟨hno, rowsIn_R h⟩
    | round l f t s b => exact h.elim
    | _ => exact h
  | halt x w' => cases x <;> exact h
theorem wpList_R {ro : Option Nat} {n : Nat} {ops : Array Oper} {Q : Exit → Act → World → Prop} (hq : ¬ LetsOut Q) : ∀ (l : List Oper) (a : Act) (w : World), noDef l = true → wpList P ops Q l a w → wpListIn (FR ro) n P ops Q l a w
  | [], a, w, _, h => h
  | o :: l, a, w, hd, h => by
    have hd1 := noDef_mem hd List.mem_cons_self
    have hd2 : noDef l = true := by
      unfold noDef at hd ⊢
      simp only [List.all_cons, Bool.and_eq_true] at hd
      exact hd.2
    unfold wpList at h
    unfold wpListIn
    by_cases hw : Region.wanted o (yielded ops a.tmps)
    · rw [if_pos hw] at h ⊢
      rcases h with h | h
      · exact Oper.wpIn_mono (fun a w h => wpList_R hq l a w hd2 h) (oper_R hd1 h)
      · exact absurd h.2 hq
    · rw [if_neg hw] at h ⊢
      exact ⟨fun f _ => trivial, wpList_R hq l _ w hd2 h⟩
theorem wpAny_R {ro : Option Nat} {n : Nat} {md : Region.Mode} {ops : Array Oper} {Q : Exit → Act → World → Prop} (hq : ¬ LetsOut Q) (hd : noDef ops.toList = true) : ∀ (fuel : Nat) (done : Array Bool) (a : Act) (w : World), wpAny P md ops Q fuel done a w → wpAnyIn (FR ro) n P md ops Q fuel done a w
  | 0, done, a, w, h => h
  | fuel + 1, done, a, w, h => by
    refine ⟨h.1, fun i hi => ?_⟩
    have h1 := h.2 i hi
    unfold wpOp at h1
    unfold wpOpIn
    cases ho : ops[i]? with
    | none =>
      simp only [ho] at h1
      exact wpAny_R hq hd fuel _ _ _ h1
    | some o =>
      simp only [ho] at h1
      have hd1 := noDef_mem hd (o := o) (by obtain ⟨hlt, rfl⟩ := Array.getElem?_eq_some_iff.1 ho; exact Array.getElem_mem_toList hlt)
      by_cases hw : Region.wanted o (yielded ops a.tmps)
      · simp only [if_pos hw] at h1 ⊢
        rcases h1 with h1 | h1
        · exact Oper.wpIn_mono (fun a w h => wpAny_R hq hd fuel _ a w h) (oper_R hd1 h1)
        · exact absurd h1.2 hq
      · simp only [if_neg hw] at h1 ⊢
        exact ⟨fun f _ => trivial, wpAny_R hq hd fuel _ _ w h1⟩
/-- What a region asks, ahead of the machine's steps. -/
def RegW (P : Program) (ops : Array Oper) (Q : Exit → Act → World → Prop) (a : Act) (w : World) : Bool → Prop
  | false => wpList P ops Q ops.toList a w
  | true => wpAny P .any ops Q ops.size (Array.replicate ops.size false) a { w with drawn := w.drawn + 1 }
theorem any_head {C : World → Prop} {Q : Exit → Act → World → Prop} {a : Act} {w : World} {l : List Oper} (n : Nat) (hB : Region.lexTailB .any l.toArray n = true) (hC : C { w with drawn := w.drawn + 1 })
    (h : wpQuiet P l.toArray C (fun a' => ∀ w', C w' → wpList P l.toArray Q (l.drop n) a' w') (l.take n) a) : RegW P l.toArray Q a w true := by
  simp only [Region.lexTailB, Bool.and_eq_true, decide_eq_true_eq] at hB
  obtain ⟨⟨⟨⟨hsel, hn⟩, hs⟩, hc⟩, hlex⟩ := hB
  have hn' : n < l.length := by simpa using hn
  have htl : (l.take n).length = n := by simp; omega
  have hdl : (l.drop n).length = l.toArray.size - n := by simp
  have inv0 : HeadInv .any l.toArray n (Array.replicate l.toArray.size false) :=
    ⟨by simp, fun j oj _ hl => (by rw [getD_replicate_false] at hl; cases hl), fun t _ ht => getD_in (by simpa using ht) (getD_replicate_false _ _)⟩
  have H := HeadQ.lex (md := .any) (k := l.toArray.size - n) hsel hs hc hn (l.take n) 0 _ a (fun j hj => by
    have hj' : j < n := by rw [htl] at hj; exact hj
    simp [hj']) (by simpa using htl) inv0 (by rw [htl]; exact hlex) h
  have := HeadQ.any (Q := Q) (k := l.toArray.size - n) (fun done a' hL w' hw' => by
    have := wpAny_of_seq (md := .any) (Q' := Q) (l.drop n) n done a' w' (fun j => by simp [List.getElem?_drop]) (by rw [hdl]; exact hL.1) (hL.2 w' hw')
    rwa [hdl] at this) _ _ _ { w with drawn := w.drawn + 1 } hC H
  rw [htl, show n + (l.toArray.size - n) = l.toArray.size by omega] at this
  exact this
theorem region_pre (htb : TbOK P tb) {c : Ctx} {id : Nat} {ops : Array Oper} {dr : Bool} {K : Exit → St → Prop} {st : St} {a : Act} {w : World} (h : Sat c N st a w) (hk : vc P tb N (.region id ops dr) K st) : RegW P ops (lift c N K) a w dr := by
    obtain ⟨st, h, hk⟩ := hk c a w h
    have mono : ∀ {ops : Array Oper} (l : List Oper) (a : Act) {Q Q' : Act → Prop}, (∀ a, Q a → Q' a) → wpQuiet P ops (C c st) Q l a → wpQuiet P ops (C c st) Q' l a := by
      intro ops l
      induction l with
      | nil => intro a Q Q' hq h; exact hq _ h
      | cons o l ih =>
        intro a Q Q' hq h
        unfold wpQuiet at h ⊢
        split
        · rename_i hw
          rw [if_pos hw] at h
          exact Oper.quiet_mono (fun a' h' => ih a' hq h') h
        · rename_i hw
          rw [if_neg hw] at h
          exact ih _ hq h
    have hdrew : C c st { w with drawn := w.drawn + 1 } := WOK.pres' h.wok (Pres.drewN [] w 1)
    have fin : ∀ g st a w, GSat c N g st a w → dropG (K .normal) g st → lift c N K .normal a w := fun g st a w hs hk => ⟨st, hs.drop, hk⟩
    rcases hk with ⟨h1, h2⟩ | ⟨n, hB, h2⟩ | ⟨rfl, hsel, kept, hk⟩
    · cases dr with
      | false => exact ops_plain htb fin _ _ _ _ _ h h2
      | true =>
        have h3 := ops_quiet htb ops.toList [] st a w h h2
        have hB := h1 rfl
        simp only [Region.lexB, Bool.and_eq_true] at hB
        have h4 := mono (Q' := fun a' => ∀ w', C c st w' → lift c N K .normal a' w') _ _ (fun a' ⟨g', st', hk', hs'⟩ w' hw' => fin _ _ _ _ (hs' w' hw') hk') h3
        refine wpAny_of_quiet (Q := fun a' => ∀ w', C c st w' → lift c N K .normal a' w') (fun _ w' hw' h => h w' hw') _ _ _ _ hdrew ?_
        have := wpAnyQ_lex (C := C c st) (md := .any) hB.1 ops.toList 0 (Array.replicate ops.size false) a (by simp) (by simpa using hB.2) h4
        simpa using this
    · obtain ⟨l⟩ := ops
      have h3 := ops_quiet htb (ops := l.toArray) (l.take n) [] st a w h h2
      cases dr with
      | false =>
        have key : ∀ (l1 l2 : List Oper) (a : Act) (w : World) {G : Act → Prop}, C c st w → wpQuiet P l.toArray (C c st) G l1 a →
            (∀ a' w', C c st w' → G a' → wpList P l.toArray (lift c N K) l2 a' w') → wpList P l.toArray (lift c N K) (l1 ++ l2) a w := by
          intro l1
          induction l1 with
          | nil => intro l2 a w G hw h1 h2; exact h2 a w hw h1
          | cons o l1 ih =>
            intro l2 a w G hw h1 h2
            rw [List.cons_append]
            unfold wpQuiet at h1
            unfold wpList
            split
            · rename_i hwt
              rw [if_pos hwt] at h1
              exact .inl (Oper.wp_of_quiet hw (fun a' w' hw' h' => ih l2 a' w' hw' h' h2) h1)
            · rename_i hwt
              rw [if_neg hwt] at h1
              exact ih l2 _ w hw h1 h2
        have := key (l.take n) (l.drop n) a w h.wok h3 (fun a' w' hw' ⟨g', st', h4, h5⟩ => ops_plain htb (ops := l.toArray) fin _ _ _ _ _ (h5 w' hw').drop h4)
        rwa [List.take_append_drop] at this
      | true =>
        refine any_head (C := C c st) n hB hdrew ?_
        exact mono _ _ (fun a' ⟨g', st', h4, h5⟩ w' hw' => ops_plain htb (ops := l.toArray) fin _ _ _ _ _ (h5 w' hw').drop h4) h3
    · have := any_sound htb (c := c) (K := K .normal) hsel (ops.size + 1) ops.size (Array.replicate ops.size false) [] st a _ (h.world hdrew) hk
      exact wpAnyT.any (fun a w ⟨st', h1, h2⟩ => ⟨st', h1, h2⟩) _ _ _ _ _ this
/-- Code that the law below covers. -/
def okR : Code → Bool
  | .skip | .ret | .exit _ => true
  | .seq x y | .cond _ x y => okR x && okR y
  | .block _ x => okR x
  | .region _ ops _ => noDef ops.toList
  | _ => false
theorem vcR_sound (htb : TbOK P tb) (hm : P.follows .mixedOrders = true) (c : Ctx) {ro : Option Nat} {n : Nat} : ∀ (code : Code) (K : Exit → St → Prop) (st : St) (a : Act) (w : World), okR code = true → (∀ st, ¬ K .outgrown st) → Sat c N st a w → vc P tb N code K st → code.wpIn (FR ro) n P (lift c N K) a w
  | .skip, K, st, a, w, _, _, h, hk => wpIn_skip ⟨st, h, hk⟩
  | .ret, K, st, a, w, _, _, h, hk => wpIn_ret ⟨st, h, hk⟩
  | .exit id, K, st, a, w, _, _, h, hk => wpIn_exit ⟨st, h, hk⟩
  | .seq x y, K, st, a, w, ho, hK, h, hk => by
    simp only [okR, Bool.and_eq_true] at ho
    refine wpIn_seq (wpIn_mono (vcR_sound htb hm c x (seqK (vc P tb N y K) K) st a w ho.1 hK h hk) ?_)
    rintro e a' w' ⟨st', h', hk'⟩
    cases e with
    | normal => exact vcR_sound htb hm c y K st' a' w' ho.2 hK h' hk'
    | _ => exact ⟨st', h', hk'⟩
  | .block id x, K, st, a, w, ho, hK, h, hk => by
    refine wpIn_block (wpIn_mono (vcR_sound htb hm c x (blockK id K) st a w ho hK h hk) ?_)
    rintro e a' w' ⟨st', h', hk'⟩
    cases e with
    | exit j =>
      simp only [Exit.inBlock]
      simp only [blockK] at hk'
      by_cases hj : j = id
      · subst hj
        simp only [beq_self_eq_true, exitK] at hk'
        simp only [if_true]
        exact ⟨st', h', hk'⟩
      · rw [show (j == id) = false by simpa using hj] at hk'
        simp only [exitK] at hk'
        rw [if_neg hj]
        exact ⟨st', h', hk'⟩
    | _ => exact ⟨st', h', hk'⟩
  | .cond o x y, K, st, a, w, hok, hK, h, hk => by
    simp only [okR, Bool.and_eq_true] at hok
    simp only [vc] at hk
    cases ho : opd st.rs [] st.env [] o with
    | none => simp [ho, condV] at hk
    | some e =>
      have e1 := fits_opd h (gA_nil a) _ _ ho
      cases e with
      | v u =>
        cases u with
        | bool b =>
          simp only [EV.val, Option.some.injEq] at e1
          cases b with
          | true =>
            rw [ho] at hk
            exact wpIn_cond_true e1.symm (vcR_sound htb hm c x K st a w hok.1 hK h hk)
          | false =>
            rw [ho] at hk
            exact wpIn_cond_false e1.symm (vcR_sound htb hm c y K st a w hok.2 hK h hk)
        | _ => simp [ho, condV] at hk
      | _ => simp [ho, condV] at hk
  | .region id ops dr, K, st, a, w, ho, hK, h, hk => by
    have h1 := region_pre htb h hk
    have hq : ¬ LetsOut (lift c N K) := fun ⟨a, w, st, _, h⟩ => hK st h
    cases dr with
    | false => exact wpIn_region_list (wpList_R hq _ _ _ ho h1)
    | true => exact wpIn_region_any hm (wpAny_R hq ho _ _ _ _ h1)
  | .loop _, _, _, _, _, ho, _, _, _ => by cases ho
  | .rangeFunc _ _ _ _, _, _, _, _, ho, _, _, _ => by cases ho
  | .scope _, _, _, _, _, ho, _, _, _ => by cases ho
  | .label _, _, _, _, _, ho, _, _, _ => by cases ho
  | .goto _, _, _, _, _, ho, _, _, _ => by cases ho
  | .refuse _, _, _, _, _, ho, _, _, _ => by cases ho
end Go.TR
