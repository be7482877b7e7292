/-
slices.Insert of one entry into a row of the call's own: the walk.
-/
import Derived.Test.YteahoodopphacaaGreatTree
import Derived.Test.YteahoodopphacaaGreatFwL
import Derived.Test.YteahoodopphacaaGreatFwD
/-!
slices.Insert of one entry into a row of the call's own: the walk.
-/
namespace Go.Proofs.YteahoodopphacaaGreat
set_option linter.unusedVariables false
set_option linter.unusedSimpArgs false
open Go.TR
def insL (l : List Entry) (i : Nat) : List Entry := l.take i ++ ⟨[], []⟩ :: l.drop i
theorem insL_len {l : List Entry} {i : Nat} (h : i ≤ l.length) : (insL l i).length = l.length + 1 := by
  unfold insL
  rw [List.length_append, List.length_cons, List.length_take, List.length_drop]
  omega
@[reducible] def zE : List EV := [.v (S []), .v (S [])]
@[reducible] def enE (l : List Entry) : List EV := (l.flatMap Entry.row).map EV.v
theorem enE_len (l : List Entry) : (enE l).length = l.length * 2 := by rw [List.length_map, flat_len entry_row]
theorem enE_app (a b : List Entry) : enE (a ++ b) = enE a ++ enE b := by
  unfold enE
  rw [List.flatMap_append, List.map_append]
theorem enE_take (l : List Entry) (i : Nat) : enE (l.take i) = (enE l).take (i * 2) := by
  unfold enE
  rw [flat_take entry_row, List.map_take]
theorem enE_drop (l : List Entry) (i : Nat) (h : i ≤ l.length) : enE (l.drop i) = (enE l).drop (i * 2) := by
  have e1 : enE l = enE (l.take i) ++ enE (l.drop i) := by rw [← enE_app, List.take_append_drop]
  have e2 : (enE (l.take i)).length = i * 2 := by rw [enE_len, List.length_take]; omega
  conv => rhs; rw [e1]
  exact (List.drop_left' e2).symm
theorem one_en (rs : RL) (l : List Entry) : oneAll rs (enE l) := one_v rs (entry_one l)
theorem one_zE (rs : RL) : oneAll rs zE := one_en rs [⟨[], []⟩]
theorem insL_enE (l : List Entry) (i : Nat) : enE (insL l i) = enE (l.take i) ++ (zE ++ enE (l.drop i)) := by
  unfold insL
  rw [enE_app]
  rfl
theorem seg1 {α : Type} (A V z : List α) {n k : Nat} (h : A.length = n) : (A ++ V).take n ++ z ++ (A ++ V).drop (n + k) = A ++ (z ++ V.drop k) := by
  subst h
  rw [List.take_left, List.drop_append, List.drop_eq_nil_of_le (by omega), List.nil_append, Nat.add_sub_cancel_left, List.append_assoc]
attribute [local irreducible] vc vcOps seqK blockK loopK retK retG retI loopV Plain CallOK CallIn bodied VS vcAny dropG backK brK loopPK IntKind.wrap
set_option maxRecDepth 100000
end Go.Proofs.YteahoodopphacaaGreat
/-!
A small program logic of our own: contracts turned into other contracts.
-/
set_option linter.unusedVariables false
set_option linter.unusedSimpArgs false
namespace Go.TR
theorem plain_toF {P : Program} {F : Hp} {f : FuncId} {args : List Value} {x : Value} (h : Plain P F f args x) : CallF P F f args fun y F' => y = x ∧ F' = F := fun w hw => by
  refine (h w hw).mono fun e w' ⟨he, pr⟩ => ?_
  refine ⟨x, F, [], he, Hp.sub.refl F, fun k o hk => ?_, pr, fun k hk => .inl hk, ⟨fun id r hr => by simp [lkR] at hr, fun i j r s b hi => by simp [lkR] at hi⟩, fun id r b hr => by simp [lkR] at hr, rfl, rfl, rfl⟩
  have h1 := hw k o hk
  rw [pr.block k (by rcases Nat.lt_or_ge k w.heap.size with h | h; exact h; rw [Array.getElem?_eq_none h] at h1; cases h1) (by simp)]
  exact h1
theorem CallF.mono' {P : Program} {F : Hp} {f : FuncId} {args : List Value} {Q Q' : Value → Hp → Prop} (h : CallF P F f args Q) (hq : ∀ x F', F.sub F' → Q x F' → Q' x F') : CallF P F f args Q' := fun w hw => by
  refine (h w hw).mono fun e w' hh => ?_
  obtain ⟨x, F', new, h1, h2, h3, h4, h5, h6, h7, h8, h9⟩ := hh
  exact ⟨x, F', new, h1, h2, h3, h4, h5, h6, h7, h8, hq x F' h2 h9⟩
end Go.TR
/-!
Package tree: Set: the walk.
-/
namespace Go.Proofs.YteahoodopphacaaGreat
set_option linter.unusedVariables false
set_option linter.unusedSimpArgs false
open Go.TR
def setE (l : List Entry) (n v : List UInt8) : Int := if findE l n ≠ 0 then findE l n else if askFault n v ≠ 0 then askFault n v else if hasN l n = false ∧ l.length = 24 then 7 else 0
def setO (l : List Entry) (n v : List UInt8) : List Entry := if setE l n v = 0 then setL l n v else []
theorem setE_bad {l : List Entry} {n v : List UInt8} (h : setE l n v ≠ 0) : setO l n v = [] := by unfold setO; rw [if_neg h]
theorem store_seg {α : Type} (A B z y : List α) {n k : Nat} (h : A.length = n) (hk : y.length = k) : (A ++ (y ++ B)).take n ++ z ++ (A ++ (y ++ B)).drop (n + k) = A ++ (z ++ B) := by
  rw [seg1 _ _ _ h, List.drop_left' hk]
theorem set_ins {l : List Entry} {n : List UInt8} (v : List UInt8) {i : Nat} (hi : i ≤ l.length) (hlb : lbN l n = i) (hh : hasN l n = false) : (enE (insL l i)).take (i * 2) ++ [.v (S n), .v (S v)] ++ (enE (insL l i)).drop (i * 2 + 2) = enE (setL l n v) := by
  have hA : (enE (l.take i)).length = i * 2 := by rw [enE_len, List.length_take]; omega
  rw [insL_enE, store_seg (k := 2) (enE (l.take i)) (enE (l.drop i)) _ zE hA rfl]
  unfold setL nextI
  rw [hlb, hh, enE_app]
  rfl
theorem set_put {l : List Entry} (hb : Book l) {n : List UInt8} (v : List UInt8) {i : Nat} (hi : i < l.length) (hlb : lbN l n = i) (hh : hasN l n = true) : (enE l).take (i * 2) ++ [.v (S n), .v (S v)] ++ (enE l).drop (i * 2 + 2) = enE (setL l n v) := by
  have e1 : i * 2 + 2 = (i + 1) * 2 := by omega
  unfold setL nextI
  rw [hlb, hh, if_pos rfl, enE_app, enE_take, e1, ← enE_drop l (i + 1) hi, List.append_assoc]
  rfl
attribute [local irreducible] ahead orderN pathN wayN goodName bookFault markN lbN hasN findE askFault
attribute [local irreducible] vc vcOps seqK blockK loopK retK retG retI loopV Plain CallOK CallIn bodied VS vcAny dropG backK brK loopPK IntKind.wrap
set_option maxRecDepth 100000
end Go.Proofs.YteahoodopphacaaGreat
/-!
A small program logic of our own: ways that meet behind two statements.
-/
set_option linter.unusedVariables false
set_option linter.unusedSimpArgs false
namespace Go.TR
section
variable {P : Program} {tb : Tb} {N : Nat} {KK : Exit → St → Prop} {st : St}
theorem s_join2 {x y c : Code} {β : Type} (JP : β → Prop) (J : β → St) (hc : firstR c = true) (hJ : ∀ j, JP j → vc P tb N c KK (J j))
    (hx : ∀ KK2 : Exit → St → Prop, (∀ st, (VS N [] st fun st' => ∃ j, JP j ∧ st' = J j) → KK2 .normal st) → (∀ st, KK .ret st → KK2 .ret st) → (∀ i st, KK (.exit i) st → KK2 (.exit i) st) → vc P tb N (.seq x y) KK2 st) : vc P tb N (.seq x (.seq y c)) KK st := by
  have h : vc P tb N (.seq x y) (seqK (vc P tb N c KK) KK) st := s_join (x := .seq x y) (c := c) JP J hc hJ hx
  have e : seqK (vc P tb N y (seqK (vc P tb N c KK) KK)) (seqK (vc P tb N c KK) KK) = seqK (vc P tb N y (seqK (vc P tb N c KK) KK)) KK := by
    funext e st
    cases e <;> rfl
  show vc P tb N x (seqK (vc P tb N y (seqK (vc P tb N c KK) KK)) KK) st
  rw [← e]
  exact h
/-- A row that a loop has made, read from now on. -/
theorem VS.shut {env : Env} (env' : Option Addr → Env) {F : Hp} {rs rs' : RL} {nx : Nat} {G : St → Prop} (id : Nat) {blk : Option Nat} {cells : List EV} {ty : TypeId} {cap : Nat} {cs : List Value} (slots : List Nat) (hr : lkR rs id = some ⟨blk, cells, ty, cap⟩) (hcs : allV rs cells = some cs) (h1 : ∀ b, forceL (frzR b id rs) = some rs') (h2 : forceL (Go.TR.dropR [id] rs) = some rs')
    (h3 : ∀ b, Go.TR.keepN (frzN b id env) slots = some (env' (some ⟨b, 0, none⟩))) (h4 : Go.TR.keepN (nilN id env) slots = some (env' none)) (k : ∀ F' p', F.sub F' → Frow F' p' cs → G ⟨env' p', F', rs', nx⟩) (hty : Nat.beq ty 0 = false := by rfl) : VS N [] ⟨env, F, rs, nx⟩ G := by
  cases blk with
  | none =>
    refine VS.nilcells hr (fun e => by rw [e] at hty; cases hty) fun ⟨hc, _⟩ => VS.nilval id slots hr h4 (VS.dropR [id] h2 (VS.id (k F none (Hp.sub.refl F) ?_)))
    subst hc
    cases hcs
    exact fun j u h => by simp at h
  | some b => exact VS.freeze id slots hr hcs (h1 b) (h3 b) fun F' hs hf => VS.id (k F' _ hs hf)
end
end Go.TR
