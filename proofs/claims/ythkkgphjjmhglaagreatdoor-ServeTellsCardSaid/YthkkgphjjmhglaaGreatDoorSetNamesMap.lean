/-
A small program logic of our own for the model. Part x: a map of ours in the words of the kit's laws on maps. Nothing here speaks of one program.
-/
import Derived.Maps.OwnSet
import Derived.Sort.KeysCollected
import Derived.StringKeys
import Derived.Test.YthkkgphjjmhglaaGreatDoorFwU
import Derived.Shelf.SlLaysZ
import Derived.Test.YthkkgphjjmhglaaGreatDoorProg
import Derived.Test.YthkkgphjjmhglaaGreatDoorSetRows2
import Derived.Shelf.SlIter.Collect
import Derived.Test.YthkkgphjjmhglaaGreatDoorSetFwJ
import Derived.Test.YthkkgphjjmhglaaGreatDoorSetClerkTick
/-!
A small program logic of our own for the model. Part x: a map of ours in the words of the kit's laws on maps. Nothing here speaks of one program.
-/
namespace Go.TR
open Go
set_option linter.unusedVariables false
set_option linter.unusedSimpArgs false
/-- The names that a map tells. -/
def namesOf (es : Array MapEntry) : List (List UInt8) := es.toList.map fun x => match x.key with
  | .string s => s.data.toList
  | _ => []
theorem owns_of {P : Program} {H : Type} {k : TypeId} (hk : P.underlying k = some .string) {w : World} {b : Nat} {es : Array MapEntry} {clock : Nat} {m : List UInt8 → Option Value} (hb : w.heap[b]? = some (.map es clock)) (hM : MapIs es clock m) (hs : es.size ≤ maxLen) (hl : ∀ s v, m s = some v → s.length ≤ maxLen) :
    ∃ D0 : DataW H, w.ownsMap P k (fun _ => some (.nil, [])) b es.size D0 ∧ Maps.size D0 = es.size ∧ (strKeys D0).Perm (namesOf es) := by
  have hrd : ∀ x ∈ es.toList, ∃ s : List UInt8, x.key = S s ∧ WideElems.rd (H := H) P k (fun _ => some (.nil, [])) x = some (.string s, .nil) := fun x hx => by
    obtain ⟨s, hs⟩ := hM.key x hx
    refine ⟨s, hs, ?_⟩
    have hlen := hl s x.val (hM.get x hx s hs)
    have h1 : keyOf P k x.key = some (.string s) := by
      rw [hs]
      exact WideMaps.keyOf_string_mk hk (s := mkB s) (by show (mkB s).data.size ≤ _; simpa [mkB] using hlen)
    have := WideElems.rd_mk (R := fun _ => some ((.nil : DataW H), [])) (val := x.val) (born := x.born) h1 rfl
    simpa using this
  have F : WideElems.Fit (H := H) P k (fun _ => some (.nil, [])) es clock := ⟨hs, hM.st, fun x hx => by
    obtain ⟨s, _, h⟩ := hrd x hx
    exact ⟨_, h⟩⟩
  have hrg : ∀ x ∈ es.toList, ∃ s : List UInt8, x.key = S s ∧ WideElems.rg (H := H) P k (fun _ => some (.nil, [])) x = (.string s, .nil) := fun x hx => by
    obtain ⟨s, h1, h2⟩ := hrd x hx
    exact ⟨s, h1, WideElems.rg_of h2⟩
  refine ⟨_, World.ownsMap_of_fit hb F (fun _ _ _ h => h), ?_, ?_⟩
  · rw [Maps.size_eq, (WideShapes.sorted_perm _).length_eq, List.length_map]
    simp
  · show (List.map (fun p : Lit × DataW H => strOf p.1) _).Perm _
    refine ((WideShapes.sorted_perm _).map _).trans ?_
    rw [List.map_map]
    refine List.Perm.of_eq ?_
    unfold namesOf
    refine List.map_congr_left fun x hx => ?_
    obtain ⟨s, h1, h2⟩ := hrg x hx
    simp only [Function.comp, h2, h1]
    rfl
theorem namesOf_nodup {es : Array MapEntry} {clock : Nat} {m : List UInt8 → Option Value} (hM : MapIs es clock m) : (namesOf es).Nodup := by
  unfold namesOf
  have hn := hM.st.2.2
  rw [List.nodup_iff_pairwise_ne, List.pairwise_map] at *
  refine hn.imp_of_mem fun {a b} ha hb h => ?_
  obtain ⟨s, hs⟩ := hM.key a ha
  obtain ⟨t, ht⟩ := hM.key b hb
  rw [hs, ht] at h ⊢
  exact fun e => h (by
    simp only [S, mkB] at e ⊢
    rw [show s = t from by simpa using e])
theorem namesOf_mem {es : Array MapEntry} {clock : Nat} {m : List UInt8 → Option Value} (hM : MapIs es clock m) (s : List UInt8) : s ∈ namesOf es ↔ (m s).isSome = true := by
  unfold namesOf
  rw [List.mem_map]
  constructor
  · rintro ⟨x, hx, e⟩
    obtain ⟨t, ht⟩ := hM.key x hx
    rw [ht] at e
    have : t = s := by simpa [S, mkB] using e
    subst this
    rw [hM.get x hx t ht]
    rfl
  · intro h
    obtain ⟨v, hv⟩ := Option.isSome_iff_exists.1 h
    obtain ⟨x, hx, hk, _⟩ := hM.has s v hv
    exact ⟨x, hx, by rw [hk]; simp [S, mkB]⟩
end Go.TR
/-!
The contract SlLaysZ.n7 of the shelf, laid at this program.
-/
namespace Go.Proofs.YthkkgphjjmhglaaGreatDoor
set_option linter.unusedVariables false
set_option linter.unusedSimpArgs false
open Go.Shelf Go.Proofs
def layKeys_ren : Go.Shelf.Ren := ⟨fun | 7 => 113 | 10 => 149 | n => n, fun | 23 => 193 | 26 => 9 | 3 => 4 | 28 => 196 | 0 => 0 | 27 => 195 | 33 => 51 | 4 => 4 | n => n, fun | n => n⟩
theorem layKeys : SlLaysZ.n7 Tryz.prog layKeys_ren := {
  mixed := by kernel_rfl,
  f7 := ⟨Tryz.f113.name, by kernel_rfl, Tryz.func113.trans (congrArg some (by kernel_rfl))⟩,
  f10 := ⟨Tryz.f149.name, by kernel_rfl, Tryz.func149.trans (congrArg some (by kernel_rfl))⟩,
  t0 := Tryz.underlying0,
  a0 := Tryz.isAgg0,
  z0 := Tryz.sizeOf0,
  v0 := Tryz.zeroValue0,
  t4 := Tryz.underlying4,
  a4 := Tryz.isAgg4,
  z4 := Tryz.sizeOf4,
  v4 := Tryz.zeroValue4,
  t23 := Tryz.underlying193,
  a23 := Tryz.isAgg193,
  z23 := Tryz.sizeOf193,
  v23 := Tryz.zeroValue193,
  t26 := Tryz.underlying9,
  a26 := Tryz.isAgg9,
  z26 := Tryz.sizeOf9,
  v26 := Tryz.zeroValue9,
  t27 := Tryz.underlying195,
  a27 := Tryz.isAgg195,
  z27 := Tryz.sizeOf195,
  v27 := Tryz.zeroValue195,
  t28 := Tryz.underlying196,
  a28 := Tryz.isAgg196,
  z28 := Tryz.sizeOf196,
  v28 := Tryz.zeroValue196,
  t33 := Tryz.underlying51,
  a33 := Tryz.isAgg51,
  z33 := Tryz.sizeOf51,
  v33 := Tryz.zeroValue51 }
end Go.Proofs.YthkkgphjjmhglaaGreatDoor
/-!
The contract SlLaysZ.n8 of the shelf, laid at this program.
-/
namespace Go.Proofs.YthkkgphjjmhglaaGreatDoor
set_option linter.unusedVariables false
set_option linter.unusedSimpArgs false
open Go.Shelf Go.Proofs
def layCollect_ren : Go.Shelf.Ren := ⟨fun | 8 => 112 | 11 => 148 | n => n, fun | 26 => 9 | 28 => 196 | 24 => 72 | 0 => 0 | 33 => 51 | 4 => 4 | n => n, fun | n => n⟩
theorem layCollect : SlLaysZ.n8 Tryz.prog layCollect_ren := {
  mixed := by kernel_rfl,
  f8 := ⟨Tryz.f112.name, by kernel_rfl, Tryz.func112.trans (congrArg some (by kernel_rfl))⟩,
  f11 := ⟨Tryz.f148.name, by kernel_rfl, Tryz.func148.trans (congrArg some (by kernel_rfl))⟩,
  t0 := Tryz.underlying0,
  a0 := Tryz.isAgg0,
  z0 := Tryz.sizeOf0,
  v0 := Tryz.zeroValue0,
  t24 := Tryz.underlying72,
  a24 := Tryz.isAgg72,
  z24 := Tryz.sizeOf72,
  v24 := Tryz.zeroValue72,
  t26 := Tryz.underlying9,
  a26 := Tryz.isAgg9,
  z26 := Tryz.sizeOf9,
  v26 := Tryz.zeroValue9,
  t28 := Tryz.underlying196,
  a28 := Tryz.isAgg196,
  z28 := Tryz.sizeOf196,
  v28 := Tryz.zeroValue196,
  i26 := by kernel_rfl }
end Go.Proofs.YthkkgphjjmhglaaGreatDoor
/-!
The keys of a map of names, collected: as many as there are names.
-/
namespace Go.Proofs.YthkkgphjjmhglaaGreatDoor
set_option linter.unusedVariables false
set_option linter.unusedSimpArgs false
open Go.TR Go.RowKit Go.Shelf Go.Proofs
theorem keys_ok (mb : Nat) (F : Hp) : CallF Tryz.prog F 113 [.map (some mb)] (fun x F' => ∃ b, x = .func (.func 149) #[] #[.pointer (some ⟨b, 0, none⟩)] ∧ Fcell F' ⟨b, 0, none⟩ = some (.map (some mb))) := by
  intro w hw
  refine (callsIn_wide.1 (AnyZ.keys_in layKeys Fence.wide 3 trivial rfl (some mb) w)).mono ?_
  rintro e w' ⟨rfl, rfl⟩
  have hb : F w.heap.size = none := by
    cases h : F w.heap.size with
    | none => rfl
    | some o => have := hw _ _ h; simp at this
  have hbl : Below w.heap.size w (w.alloc (.cells #[.map (some mb)] 193)) := (Below.refl _ w).alloc (Nat.le_refl _) _
  refine ⟨_, F.plus w.heap.size (.cells #[.map (some mb)] 193), [], rfl, fun k o e => ?_, fun k o e => ?_, ⟨hbl.os, hbl.tape, hbl.output, hbl.size, fun k hk _ => hbl.block k hk⟩, fun k hk => ?_, ⟨fun id r h => by simp [lkR] at h, fun i j r s b h => by simp [lkR] at h⟩, fun id r b h => by simp [lkR] at h, rfl, w.heap.size, rfl, ?_⟩
  · unfold Hp.plus
    rw [if_neg (by rintro rfl; rw [hb] at e; cases e)]
    exact e
  · unfold Hp.plus at e
    split at e
    · rename_i hk
      cases e
      rw [hk]; exact World.alloc_heap_new w _
    · have := hw _ _ e
      exact (hbl.block k (Array.getElem?_eq_some_iff.1 this).1).trans this
  · unfold Hp.plus at hk
    split at hk
    · rename_i h; exact .inr (by omega)
    · exact .inl hk
  · simp [Fcell, Hp.plus]
theorem collect_ok {es : Array MapEntry} {clock mb b : Nat} {m : List UInt8 → Option Value} {F : Hp} (hF : F mb = some (.map es clock)) (hM : MapIs es clock m) (hb : Fcell F ⟨b, 0, none⟩ = some (.map (some mb))) (hs : es.size ≤ 1000000) (hl : ∀ s v, m s = some v → s.length ≤ 4611686018427387904) :
    CallF Tryz.prog F 112 [.func (.func 149) #[] #[.pointer (some ⟨b, 0, none⟩)]] (fun x F' => ∃ p c, x = .slice p es.size c) := by
  intro w hw
  obtain ⟨D0, h1, h2, h3⟩ := owns_of (H := Unit) Tryz.underlying9 (hw _ _ hF) hM (by unfold maxLen; omega) (fun s v h => by have := hl s v h; unfold maxLen; omega)
  have hBm : b < w.heap.size := by
    have := Fcell.world hw hb
    unfold World.cell? at this
    split at this
    · rename_i h; exact (Array.getElem?_eq_some_iff.1 h).1
    · cases this
  have eg : ∀ args w, (callFunc 149 args).run Tryz.prog w = .ok (.enter 149 args) w := enters_of Tryz.func149 (by kernel_rfl) rfl
  have hgive := AnyZ.keys_gives (L := { layKeys with }) Fence.wide 4 trivial rfl (by decide) b mb es.size D0 w hBm (Fcell.world hw hb) h1
  rw [h2] at hgive
  have hc := AnyZ.collect_in layCollect Fence.wide 6 trivial trivial rfl (by decide) 149 #[.pointer (some ⟨b, 0, none⟩)] trivial eg _ es.size (by unfold maxLen; omega) (by omega) w hgive
  refine (callsIn_wide.1 hc).mono ?_
  rintro e w' ⟨v, ss, rfl, hp, hrow, _, hbl⟩
  have hlen : ss.length = es.size := by
    rw [hp.length_eq, h3.length_eq]
    unfold namesOf
    simp
  refine ⟨_, F, [], rfl, fun _ _ h => h, fun k o e => ?_, ⟨hbl.os, hbl.tape, hbl.output, hbl.size, fun k hk _ => hbl.block k hk⟩, fun k hk => .inl hk, ⟨fun id r h => by simp [lkR] at h, fun i j r s b h => by simp [lkR] at h⟩, fun id r b h => by simp [lkR] at h, rfl, ?_⟩
  · have := hw _ _ e
    exact (hbl.block k (Array.getElem?_eq_some_iff.1 this).1).trans this
  · rcases hrow.2 with ⟨rfl, h0⟩ | ⟨g, cap, cur, rfl, _⟩
    · exact ⟨none, 0, by rw [← hlen, h0]⟩
    · exact ⟨_, _, by rw [hlen]⟩
/-- As many keys as names. -/
theorem keys_len {es : Array MapEntry} {clock : Nat} {m : List UInt8 → Option Value} (hM : MapIs es clock m) {L : List (List UInt8)} (h : ∀ s, (m s).isSome = true ↔ s ∈ L) : es.size = (ordN L).length := by
  have e1 : (namesOf es).length = es.size := by unfold namesOf; simp
  rw [← e1]
  have hm : ∀ s, s ∈ namesOf es ↔ s ∈ ordN L := fun s => by rw [namesOf_mem hM, h, ordN_mem]
  exact Nat.le_antisymm (nodup_le (namesOf_nodup hM) (fun s hs => (hm s).1 hs)) (nodup_le (rise_nodup (ordN_rise L)) (fun s hs => (hm s).2 hs))
end Go.Proofs.YthkkgphjjmhglaaGreatDoor
