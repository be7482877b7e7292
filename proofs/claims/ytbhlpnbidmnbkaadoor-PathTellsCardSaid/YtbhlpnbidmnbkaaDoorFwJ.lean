/-
A small program logic of our own: ways that meet behind two statements.
-/
import Derived.Test.YtbhlpnbidmnbkaaDoorFwD
set_option linter.unusedVariables false
set_option linter.unusedSimpArgs false
namespace Go.TR
section
variable {P : Program} {tb : Tb} {N : Nat} {KK : Exit → St → Prop} {st : St}
theorem s_join2 {x y c : Code} {β : Type} (JP : β → Prop) (J : β → St) (hc : firstR c = true) (hJ : ∀ j, JP j → vc P tb N c KK (J j))
    (hx : ∀ KK2 : Exit → St → Prop, (∀ st, (VS N [] st fun st' => ∃ j, JP j ∧ st' = J j) → KK2 .normal st) → (∀ st, KK .ret st → KK2 .ret st) → (∀ i st, KK (.exit i) st → KK2 (.exit i) st) → vc P tb N (.seq x y) KK2 st) : vc P tb N (.seq x (.seq y c)) KK st := by
  have h : vc P tb N (.seq x y) (seqK (vc P tb N c KK) KK) st := s_join (x := .seq x y) (c := c) JP J hc hJ hx
  have e : seqK (vc P tb N y (seqK (vc P tb N c KK) KK)) (seqK (vc P tb N c KK) KK) = seqK (vc P tb N y (seqK (vc P tb N c KK) KK)) KK := by
    funext e st
    cases e <;> rfl
  show vc P tb N x (seqK (vc P tb N y (seqK (vc P tb N c KK) KK)) KK) st
  rw [← e]
  exact h
/-- A row that a loop has made, read from now on. -/
theorem VS.shut {env : Env} (env' : Option Addr → Env) {F : Hp} {rs rs' : RL} {nx : Nat} {G : St → Prop} (id : Nat) {blk : Option Nat} {cells : List EV} {ty : TypeId} {cap : Nat} {cs : List Value} (slots : List Nat) (hr : lkR rs id = some ⟨blk, cells, ty, cap⟩) (hcs : allV rs cells = some cs) (h1 : ∀ b, forceL (frzR b id rs) = some rs') (h2 : forceL (Go.TR.dropR [id] rs) = some rs')
    (h3 : ∀ b, Go.TR.keepN (frzN b id env) slots = some (env' (some ⟨b, 0, none⟩))) (h4 : Go.TR.keepN (nilN id env) slots = some (env' none)) (k : ∀ F' p', F.sub F' → Frow F' p' cs → G ⟨env' p', F', rs', nx⟩) (hty : Nat.beq ty 0 = false := by rfl) : VS N [] ⟨env, F, rs, nx⟩ G := by
  cases blk with
  | none =>
    refine VS.nilcells hr (fun e => by rw [e] at hty; cases hty) fun ⟨hc, _⟩ => VS.nilval id slots hr h4 (VS.dropR [id] h2 (VS.id (k F none (Hp.sub.refl F) ?_)))
    subst hc
    cases hcs
    exact fun j u h => by simp at h
  | some b => exact VS.freeze id slots hr hcs (h1 b) (h3 b) fun F' hs hf => VS.id (k F' _ hs hf)
end
end Go.TR
