/-
slices.Insert of one entry into a row of the call's own: the walk.
-/
import Derived.Test.YthkkgphjjmhglaaGreatDoorTree
import Derived.Test.YthkkgphjjmhglaaGreatDoorSetFwL
/-!
slices.Insert of one entry into a row of the call's own: the walk.
-/
namespace Go.Proofs.YthkkgphjjmhglaaGreatDoor
set_option linter.unusedVariables false
set_option linter.unusedSimpArgs false
open Go.TR
def insL (l : List Entry) (i : Nat) : List Entry := l.take i ++ ⟨[], []⟩ :: l.drop i
@[reducible] def zE : List EV := [.v (S []), .v (S [])]
@[reducible] def enE (l : List Entry) : List EV := (l.flatMap Entry.row).map EV.v
attribute [local irreducible] vc vcOps seqK blockK loopK retK retG retI loopV Plain CallOK CallIn bodied VS vcAny dropG backK brK loopPK IntKind.wrap
set_option maxRecDepth 100000
end Go.Proofs.YthkkgphjjmhglaaGreatDoor
/-!
A small program logic of our own: contracts turned into other contracts.
-/
set_option linter.unusedVariables false
set_option linter.unusedSimpArgs false
namespace Go.TR
end Go.TR
/-!
Package tree: Set: the walk.
-/
namespace Go.Proofs.YthkkgphjjmhglaaGreatDoor
set_option linter.unusedVariables false
set_option linter.unusedSimpArgs false
open Go.TR
def setE (l : List Entry) (n v : List UInt8) : Int := if findE l n ≠ 0 then findE l n else if askFault n v ≠ 0 then askFault n v else if hasN l n = false ∧ l.length = 24 then 7 else 0
def setO (l : List Entry) (n v : List UInt8) : List Entry := if setE l n v = 0 then setL l n v else []
attribute [local irreducible] ahead orderN pathN wayN goodName bookFault markN lbN hasN findE askFault
attribute [local irreducible] vc vcOps seqK blockK loopK retK retG retI loopV Plain CallOK CallIn bodied VS vcAny dropG backK brK loopPK IntKind.wrap
set_option maxRecDepth 100000
/-- slices.Clone: a row of the caller's own. -/
theorem clone_entry (cs : List Value) (n : Nat) {p : Option Addr} {c : Nat} {F : Hp} (hl : cs.length = n * 2) (hf : Frow F p cs) (h1 : ∀ x ∈ cs, Go.TR.one (.v x) = true) (hb : n * 32 ≤ 140737488355328) : CallOK Tryz.prog F 31 [.slice p n c] (fun x _ new => RowBack 70 2 cs n x new) := by
  refine call_vc (N := 8) (rv := [.tmp 2]) tbok mixed Tryz.func31 rfl rfl rfl rfl rfl ?_
  (refine run ?_; repeat intro b)
  refine s_snil (b := p.isNone) tbok rfl rfl rfl ?_
  cases p with
  | none =>
    have hn : n = 0 := by
      rcases Nat.eq_zero_or_pos n with h | h
      · exact h
      · have := frow_some hf (j := 0) (by rw [hl]; omega)
        cases this
    subst hn
    (refine run ?_; repeat intro b)
    refine s_retG (VS.id ⟨_, rfl, .inl ⟨rfl, rfl, none, rfl⟩⟩)
  | some a =>
    (refine run ?_; repeat intro b)
    refine s_appR rfl rfl rfl rfl rfl rfl rfl rfl (src_frz hl hf) (one_v _ h1) (fun h => by cases h) (Nat.le_refl 0) rfl (Nat.zero_le _) (by show (0 + n) * 32 ≤ _; omega) (fun hn => ?_) (fun hn b2 c2 hc2 => ?_)
    · subst hn
      (refine run ?_; repeat intro b)
      refine s_retG ?_
      refine VS.freeze 0 [2] rfl (cs := []) rfl rfl rfl fun F' hs1 hf1 => VS.id ⟨_, rfl, .inl ⟨rfl, rfl, _, rfl⟩⟩
    · (refine run ?_; repeat intro b)
      simp only [Nat.zero_add] at hc2 ⊢
      refine s_retGf (VSf.ren (nx' := 1) [(1, 0)] [2] [(0, ⟨some b2, cs.map EV.v, 70, c2 * 2⟩)] ⟨rfl, ⟨_, rfl, rfl, rfl, rfl, .inl ⟨rfl, fun e he => all_v _ e he⟩⟩, trivial⟩ rfl rfl rfl rfl rfl rfl ⟨_, rfl, .inr ⟨hn, b2, c2, hc2, rfl, rfl⟩⟩)
end Go.Proofs.YthkkgphjjmhglaaGreatDoor
/-!
A small program logic of our own: ways that meet behind two statements.
-/
set_option linter.unusedVariables false
set_option linter.unusedSimpArgs false
namespace Go.TR
section
variable {P : Program} {tb : Tb} {N : Nat} {KK : Exit → St → Prop} {st : St}
/-- A row that a loop has made, read from now on. -/
theorem VS.shut {env : Env} (env' : Option Addr → Env) {F : Hp} {rs rs' : RL} {nx : Nat} {G : St → Prop} (id : Nat) {blk : Option Nat} {cells : List EV} {ty : TypeId} {cap : Nat} {cs : List Value} (slots : List Nat) (hr : lkR rs id = some ⟨blk, cells, ty, cap⟩) (hcs : allV rs cells = some cs) (h1 : ∀ b, forceL (frzR b id rs) = some rs') (h2 : forceL (Go.TR.dropR [id] rs) = some rs')
    (h3 : ∀ b, Go.TR.keepN (frzN b id env) slots = some (env' (some ⟨b, 0, none⟩))) (h4 : Go.TR.keepN (nilN id env) slots = some (env' none)) (k : ∀ F' p', F.sub F' → Frow F' p' cs → G ⟨env' p', F', rs', nx⟩) (hty : Nat.beq ty 0 = false := by rfl) : VS N [] ⟨env, F, rs, nx⟩ G := by
  cases blk with
  | none =>
    refine VS.nilcells hr (fun e => by rw [e] at hty; cases hty) fun ⟨hc, _⟩ => VS.nilval id slots hr h4 (VS.dropR [id] h2 (VS.id (k F none (Hp.sub.refl F) ?_)))
    subst hc
    cases hcs
    exact fun j u h => by simp at h
  | some b => exact VS.freeze id slots hr hcs (h1 b) (h3 b) fun F' hs hf => VS.id (k F' _ hs hf)
end
end Go.TR
