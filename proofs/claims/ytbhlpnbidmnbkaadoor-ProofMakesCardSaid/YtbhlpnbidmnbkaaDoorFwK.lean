/-
A small program logic of our own: contracts turned into other contracts.
-/
import Derived.Test.YtbhlpnbidmnbkaaDoorFwD
set_option linter.unusedVariables false
set_option linter.unusedSimpArgs false
namespace Go.TR
theorem plain_toF {P : Program} {F : Hp} {f : FuncId} {args : List Value} {x : Value} (h : Plain P F f args x) : CallF P F f args fun y F' => y = x ∧ F' = F := fun w hw => by
  refine (h w hw).mono fun e w' ⟨he, pr⟩ => ?_
  refine ⟨x, F, [], he, Hp.sub.refl F, fun k o hk => ?_, pr, fun k hk => .inl hk, ⟨fun id r hr => by simp [lkR] at hr, fun i j r s b hi => by simp [lkR] at hi⟩, fun id r b hr => by simp [lkR] at hr, rfl, rfl, rfl⟩
  have h1 := hw k o hk
  rw [pr.block k (by rcases Nat.lt_or_ge k w.heap.size with h | h; exact h; rw [Array.getElem?_eq_none h] at h1; cases h1) (by simp)]
  exact h1
theorem CallF.mono' {P : Program} {F : Hp} {f : FuncId} {args : List Value} {Q Q' : Value → Hp → Prop} (h : CallF P F f args Q) (hq : ∀ x F', F.sub F' → Q x F' → Q' x F') : CallF P F f args Q' := fun w hw => by
  refine (h w hw).mono fun e w' hh => ?_
  obtain ⟨x, F', new, h1, h2, h3, h4, h5, h6, h7, h8, h9⟩ := hh
  exact ⟨x, F', new, h1, h2, h3, h4, h5, h6, h7, h8, hq x F' h2 h9⟩
end Go.TR
