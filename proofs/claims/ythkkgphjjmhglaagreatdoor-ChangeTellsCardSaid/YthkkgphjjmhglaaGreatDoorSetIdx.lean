/-
slices.SortFunc and slices.Compact over names, by the shelf's contracts, in our words.
-/
import Derived.Shelf.SlSortCmp.NoneTotal
import Derived.Shelf.SlicesG.CompactS
import Derived.Test.YthkkgphjjmhglaaGreatDoorSetSortMath
import Derived.Test.YthkkgphjjmhglaaGreatDoorPath
import Derived.Test.YthkkgphjjmhglaaGreatDoorSetLayCompact
import Derived.Test.YthkkgphjjmhglaaGreatDoorBase
/-!
slices.SortFunc and slices.Compact over names, by the shelf's contracts, in our words.
-/
namespace Go.Proofs.YthkkgphjjmhglaaGreatDoor
set_option linter.unusedVariables false
set_option linter.unusedSimpArgs false
open Go.TR Go.Shelf Go.Proofs
def encN (x : Nm62) : Value := S x.1
theorem ltN (x y : Nm62) : ltOf (fun a b : Nm62 => cmpA a.1 b.1) x y = ahead x.1 y.1 := cmpA_lt x.1 y.1
theorem swoN : Sort.SWO (ltOf fun a b : Nm62 => cmpA a.1 b.1) where
  irrefl x := by rw [ltN]; exact ahead_irr _
  trans x y z h1 h2 := by rw [ltN] at *; exact ahead_trans h1 h2
  ntrans x y z h1 h2 := by
    rw [ltN] at *
    by_cases h : ahead x.1 z.1 = true
    · by_cases e : x.1 = y.1
      · rw [e, h2] at h; cases h
      · have := ahead_tri h1 e
        rw [ahead_trans this h] at h2; cases h2
    · simpa using h
theorem totN (x y : Nm62) (h1 : ltOf (fun a b : Nm62 => cmpA a.1 b.1) x y = false) (h2 : ltOf (fun a b : Nm62 => cmpA a.1 b.1) y x = false) : x = y := by
  rw [ltN] at *
  by_cases e : x.1 = y.1
  · exact Subtype.ext e
  · rw [ahead_tri h1 e] at h2; cases h2
theorem sort0_ok (p : Option Addr) (c : Nat) (F : Hp) : Plain Tryz.prog F 158 [.slice p 0 c, .func (.func 159) #[] #[]] (.tuple #[]) := fun w _ => by
  have h := AnyF.slices_SortFunc_none (P := Tryz.prog) (ρ := laySort_ren) { laySort with } p c (.func (.func 159) #[] #[]) w
  refine Calls.mono h ?_
  rintro e w' ⟨rfl, rfl⟩
  exact ⟨rfl, Pres.refl _ _⟩
theorem compact0_ok (p : Option Addr) (c : Nat) (F : Hp) : Plain Tryz.prog F 162 [.slice p 0 c] (.slice p 0 c) := fun w _ => by
  refine Calls.mono (AnyG.slices_Compact_string_empty layCompact p c w) ?_
  rintro e w' ⟨rfl, rfl⟩
  exact ⟨rfl, Pres.refl _ _⟩
attribute [local irreducible] pathN cmpL
attribute [local irreducible] vc vcOps seqK blockK loopK retK retG retI loopV Plain CallOK CallIn bodied VS vcAny dropG backK brK loopPK IntKind.wrap
set_option maxRecDepth 100000
set_option maxHeartbeats 4000000
theorem sortcmp_ok (a b : List UInt8) (ha : a.length ≤ 4611686018427387904) (hb : b.length ≤ 4611686018427387904) (F : Hp) : Plain Tryz.prog F 159 [S a, S b] (i64 (cmpA a b)) := by
  refine plain_vc (N := 15) (rv := [.tmp 4]) tbok mixed Tryz.func159 rfl rfl rfl rfl rfl ?_
  (refine run ?_; repeat intro b)
  refine s_plain _ rfl rfl rfl bd145 rfl (pathof0_ok a ha F) ?_
  (refine run ?_; repeat intro b)
  refine s_plain _ rfl rfl rfl bd145 rfl (pathof0_ok b hb F) ?_
  refine s_plain _ rfl rfl rfl bd161 rfl (cmps_ok _ _ F) ?_
  (refine run ?_; repeat intro b)
  refine s_plain _ rfl rfl rfl bd161 rfl (cmps_ok a b F) ?_
  (refine run ?_; repeat intro b)
  refine s_shift (VS.freeze 0 [13] rfl rfl rfl rfl fun F1 hs1 hf1 => VS.id ?_)
  refine s_plain _ rfl rfl rfl bd160 rfl (or2_ok _ _ hf1) ?_
  (refine run ?_; repeat intro b)
  rfl
theorem sortfn_in (l : List (List UInt8)) (hl : ∀ s ∈ l, s.length ≤ 4611686018427387904) (hn : l.length < 4611686018427387904) {F : Hp} {rs : RL} {nx id b cap c : Nat} {ty : TypeId} (hr : lkR rs id = some ⟨some b, (l.map S).map .v, ty, cap⟩) :
    CallIn Tryz.prog F rs nx 158 [.row id 0 l.length c, .v (.func (.func 159) #[] #[])] (fun e F' rs' nx' => e = .v (.tuple #[]) ∧ F' = F ∧ rs' = setR rs id ⟨some b, ((sortN l).map S).map .v, ty, cap⟩ ∧ nx' = nx) := by
  let L : List Nm62 := l.attach.map fun x => ⟨x.1, hl x.1 x.2⟩
  have hL : L.map (·.1) = l := by
    show (l.attach.map fun x => (⟨x.1, hl x.1 x.2⟩ : Nm62)).map (·.1) = l
    rw [List.map_map]
    exact List.attach_map_subtype_val l
  have hLl : L.length = l.length := by
    have := congrArg List.length hL
    rwa [List.length_map] at this
  refine rowcall_in (xs := [.slice (some ⟨b, 0, none⟩) l.length c, .func (.func 159) #[] #[]]) (us := l.map S) (vs := (sortN l).map S) (v := .tuple #[]) (ev := .v (.tuple #[])) hr (by rw [List.length_map, List.length_map, sortN_len]) (by simp [allV, EV.val, hr]) rfl ?_
  intro w cur hF hcur hcs hlen hin
  have hcell : ∀ (j : Nat) (x : Value), (L.toArray.toList.map encN)[j]? = some x → cur[j]? = some x := fun j x hj => by
    refine hin j x ?_
    rw [← hL, List.map_map]
    exact hj
  have hH := holds_row encN hcur (d := L.toArray) hcell
  have eg : ∀ args w, (callFunc 159 args).run Tryz.prog w = .ok (.enter 159 args) w := enters_of Tryz.func159 (by kernel_rfl) rfl
  have hcmp : CmpLays1 Tryz.prog 159 #[] encN (fun a b : Nm62 => cmpA a.1 b.1) b 0 L.toArray.size w := fun m os dk _ x y =>
    plain_lays (sortcmp_ok x.1 y.1 x.2 y.2 (fun _ => none)) _ (fun k o h => by cases h)
  have hsz : L.toArray.size = l.length := by simpa using hLl
  have h := Any.slices_SortFunc_total laySort encN (fun _ => rfl) (fun a b : Nm62 => cmpA a.1 b.1) swoN 159 #[] b 0 c L.toArray w eg hcmp hH (Array.getElem?_eq_some_iff.1 hcur).1 (by rw [hsz]; exact hn) totN
  rw [hsz] at h
  refine Calls.mono h ?_
  rintro e w' ⟨rfl, n, os, rfl⟩
  have hm : (L.toArray.toList.mergeSort fun x y => !(ltOf fun a b : Nm62 => cmpA a.1 b.1) y x) = L.mergeSort fun x y => !ahead y.1 x.1 := by
    congr 1
    funext x y
    rw [ltN]
  rw [hm]
  have hms : (L.mergeSort fun x y => !ahead y.1 x.1).toArray.size ≤ cur.size := by
    rw [List.size_toArray, List.length_mergeSort, hLl, hcs]
    simpa using hlen
  obtain ⟨cur', h1, h2, h3⟩ := putRow_cells encN n (L.mergeSort fun x y => !ahead y.1 x.1).toArray os hcur hms
  refine ⟨rfl, putRow_pres encN w b n _ os, cur', h1, h2.trans hcs, fun j x hj => h3 j x ?_⟩
  rw [← hL, ← sortN_map, List.map_map] at hj
  exact hj
theorem compact_in (l : List (List UInt8)) (hn : l.length < 4611686018427387904) {F : Hp} {rs : RL} {nx id b cap c : Nat} {ty : TypeId} (hc : l.length ≤ c) (hr : lkR rs id = some ⟨some b, (l.map S).map .v, ty, cap⟩) :
    CallIn Tryz.prog F rs nx 162 [.row id 0 l.length c] (fun e F' rs' nx' => e = .row id 0 (Lib.compact l).length c ∧ F' = F ∧ rs' = setR rs id ⟨some b, ((Lib.compact l ++ List.replicate (l.length - (Lib.compact l).length) []).map S).map .v, ty, cap⟩ ∧ nx' = nx) := by
  have hle : (Lib.compact l).length ≤ l.length := by
    unfold Lib.compact Lib.compactUpTo
    rw [List.length_map]
    exact Nat.le_trans (List.length_filter_le _ _) (by rw [List.length_range]; exact Nat.le_refl _)
  refine rowcall_in (xs := [.slice (some ⟨b, 0, none⟩) l.length c]) (us := l.map S) (vs := (Lib.compact l ++ List.replicate (l.length - (Lib.compact l).length) []).map S) (v := .slice (some ⟨b, 0, none⟩) (Lib.compact l).length c) (ev := .row id 0 (Lib.compact l).length c) hr (by simp only [List.length_map, List.length_append, List.length_replicate]; omega) ?_ ?_ ?_
  · simp only [allV, EV.val]; rw [hr]; rfl
  · simp only [EV.val]; rw [hr]; rfl
  intro w cur hF hcur hcs hlen hin
  have hH := holds_row encStr hcur (d := l.toArray) hin
  have h := AnyG.slices_Compact_string layCompact b 0 c l w hH (by omega) hc
  refine Calls.mono h ?_
  rintro e w' ⟨rfl, q, rfl⟩
  have hms : (Lib.compact l ++ List.replicate (l.length - (Lib.compact l).length) []).toArray.size ≤ cur.size := by
    simp only [List.size_toArray, List.length_append, List.length_replicate, hcs]
    simp only [List.length_map] at hlen
    omega
  obtain ⟨cur', h1, h2, h3⟩ := putRow_cells encStr q (Lib.compact l ++ List.replicate (l.length - (Lib.compact l).length) []).toArray #[] hcur hms
  have hp := putRow_pres encStr w b q (Lib.compact l ++ List.replicate (l.length - (Lib.compact l).length) []).toArray #[]
  rw [Sort.grow_empty] at h1 hp
  exact ⟨rfl, hp, cur', h1, h2.trans hcs, h3⟩
end Go.Proofs.YthkkgphjjmhglaaGreatDoor
/-!
A path's bits, and how far two paths go alike, plainly.
-/
namespace Go.Proofs.YthkkgphjjmhglaaGreatDoor
set_option linter.unusedVariables false
set_option linter.unusedSimpArgs false
open Go.TR
/-- How far two texts are alike. -/
def commonN : List UInt8 → List UInt8 → Nat
  | a :: s, b :: t => if a = b then commonN s t + 1 else 0
  | _, _ => 0
end Go.Proofs.YthkkgphjjmhglaaGreatDoor
/-!
slices.IndexFunc and ContainsFunc at the element types of one cell.
-/
namespace Go.Proofs.YthkkgphjjmhglaaGreatDoor
set_option linter.unusedVariables false
set_option linter.unusedSimpArgs false
open Go.TR
/-- Where the first element is that is told apart; -1. -/
def idxP {α : Type} (q : α → Bool) (l : List α) : Int := if l.any q = true then ((l.findIdx q : Nat) : Int) else -1
theorem idxP_none {α : Type} {q : α → Bool} {l : List α} (h : l.any q = false) : idxP q l = -1 := by unfold idxP; rw [h]; rfl
theorem idxP_found {α : Type} {q : α → Bool} {l : List α} {k : Nat} (hk : k < l.length) (hany : (l.take k).any q = false) (h : q l[k] = true) : idxP q l = (k : Int) := by
  have h1 : l.any q = true := List.any_eq_true.2 ⟨l[k], List.getElem_mem hk, h⟩
  have h2 : l.findIdx q = k := by
    rw [List.findIdx_eq hk]
    refine ⟨h, fun j hj => ?_⟩
    rw [List.any_eq_false] at hany
    have hm : l[j] ∈ l.take k := by
      have : (l.take k)[j]'(by rw [List.length_take]; omega) = l[j] := List.getElem_take
      rw [← this]
      exact List.getElem_mem _
    simpa using hany _ hm
  unfold idxP
  rw [if_pos h1, h2]
theorem idxP_neg {α : Type} (q : α → Bool) (l : List α) : decide (0 ≤ idxP q l) = l.any q := by
  unfold idxP
  cases h : l.any q with
  | true => simp
  | false => simp
attribute [local irreducible] vc vcOps seqK blockK loopK retK retG retI loopV Plain CallOK CallIn bodied VS vcAny dropG backK brK loopPK IntKind.wrap
set_option maxRecDepth 100000
/-- slices.IndexFunc, ContainsFunc: elements of one cell. -/
theorem strs_idx (q : (List UInt8) → Bool) (g : Nat) (lb : Array Value) (hb : bodied Tryz.prog g) (l : List (List UInt8)) {p : Option Addr} {c : Nat} {F : Hp} (hf : Frow F p (l.map S)) (hl : l.length ≤ 4611686018427387904) (hp : ∀ x ∈ l, Plain Tryz.prog F g (S x :: lb.toList) (.bool (q x))) :
    Plain Tryz.prog F 200 [.slice p l.length c, .func (.func g) #[] lb] (i64 (idxP q l)) := by
  refine plain_vc (N := 19) (rv := [.tmp 4]) tbok mixed Tryz.func200 rfl rfl rfl rfl rfl ?_
  (refine run ?_; repeat intro b)
  refine s_loopP (fun k : Nat => k ≤ l.length ∧ (l.take k).any q = false) (fun k => ⟨[(0, .v (.slice p l.length c)), (1, .v (.func (.func g) #[] lb)), (7, .v (i64 (l.length : Nat))), (8, .v (i64 (k : Nat)))], F, [], 0⟩) (fun k => l.length - k) 0 ⟨Nat.zero_le _, rfl⟩ (VS.keepN [0, 1, 7, 8] rfl rfl) ?_
  rintro k ⟨hk, hany⟩
  (refine run ?_; repeat intro b)
  refine s_if _ rfl (fun h => ?_) (fun h => ?_)
  · have hlt : k < l.length := by simpa using h
    (refine run ?_; repeat intro b)
    refine s_pureO rfl rfl rfl ⟨by omega, by omega, frow_some hf (j := k) (by simpa using hlt)⟩ ?_
    refine s_load (S l[k]) rfl rfl rfl rfl (by have := frow_get hf (j := k) (by simpa using hlt); simpa using this) ?_
    (refine run ?_; repeat intro b)
    refine s_plain _ rfl rfl (by rw [forceL_eq]; rfl) hb rfl (hp l[k] (List.getElem_mem hlt)) ?_
    (refine run ?_; repeat intro b)
    refine s_if _ rfl (fun h2 => ?_) (fun h2 => ?_)
    · (refine run ?_; repeat intro b)
      rw [idxP_found hlt hany h2]
      rfl
    · (refine run ?_; repeat intro b)
      rw [wrap_succ (by omega)]
      refine s_loopPn (k + 1) ⟨hlt, ?_⟩ (by omega) (VS.keepN [0, 1, 7, 8] rfl rfl)
      rw [List.take_succ_eq_append_getElem hlt, List.any_append, hany]
      simp [h2]
  · have hge : k = l.length := by
      have : ¬ k < l.length := by simpa using h
      omega
    subst hge
    rw [List.take_length] at hany
    (refine run ?_; repeat intro b)
    rw [idxP_none hany]
    rfl
theorem strs_has (q : (List UInt8) → Bool) (g : Nat) (lb : Array Value) (hb : bodied Tryz.prog g) (l : List (List UInt8)) {p : Option Addr} {c : Nat} {F : Hp} (hf : Frow F p (l.map S)) (hl : l.length ≤ 4611686018427387904) (hp : ∀ x ∈ l, Plain Tryz.prog F g (S x :: lb.toList) (.bool (q x))) :
    Plain Tryz.prog F 155 [.slice p l.length c, .func (.func g) #[] lb] (.bool (l.any q)) := by
  refine plain_vc (N := 9) (rv := [.tmp 4]) tbok mixed Tryz.func155 rfl rfl rfl rfl rfl ?_
  (refine run ?_; repeat intro b)
  refine s_plain _ rfl rfl rfl bd200 rfl (strs_idx q g lb hb l hf hl hp) ?_
  (refine run ?_; repeat intro b)
  rw [idxP_neg]
  rfl
end Go.Proofs.YthkkgphjjmhglaaGreatDoor
