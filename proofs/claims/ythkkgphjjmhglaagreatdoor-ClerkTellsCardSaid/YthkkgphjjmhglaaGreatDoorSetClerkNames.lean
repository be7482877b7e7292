/-
A small program logic of our own for the model. Part x: a map of ours in the words of the kit's laws on maps. Nothing here speaks of one program.
-/
import Derived.Maps.OwnSet
import Derived.Sort.KeysCollected
import Derived.StringKeys
import Derived.Test.YthkkgphjjmhglaaGreatDoorFwU
import Derived.Shelf.SlLaysZ
import Derived.Test.YthkkgphjjmhglaaGreatDoorProg
import Derived.Test.YthkkgphjjmhglaaGreatDoorSetIdxFunc
import Derived.Shelf.SlIter.Collect
import Derived.Test.YthkkgphjjmhglaaGreatDoorSetTreeSet
import Derived.Test.YthkkgphjjmhglaaGreatDoorSetClerkTick
import Derived.Test.YthkkgphjjmhglaaGreatDoorSetClerk1
import Derived.Test.YthkkgphjjmhglaaGreatDoorLevels
import Derived.Test.YthkkgphjjmhglaaGreatDoorSetFwY
/-!
A small program logic of our own for the model. Part x: a map of ours in the words of the kit's laws on maps. Nothing here speaks of one program.
-/
namespace Go.TR
open Go
set_option linter.unusedVariables false
set_option linter.unusedSimpArgs false
/-- The names that a map tells. -/
def namesOf (es : Array MapEntry) : List (List UInt8) := es.toList.map fun x => match x.key with
  | .string s => s.data.toList
  | _ => []
theorem owns_of {P : Program} {H : Type} {k : TypeId} (hk : P.underlying k = some .string) {w : World} {b : Nat} {es : Array MapEntry} {clock : Nat} {m : List UInt8 → Option Value} (hb : w.heap[b]? = some (.map es clock)) (hM : MapIs es clock m) (hs : es.size ≤ maxLen) (hl : ∀ s v, m s = some v → s.length ≤ maxLen) :
    ∃ D0 : DataW H, w.ownsMap P k (fun _ => some (.nil, [])) b es.size D0 ∧ Maps.size D0 = es.size ∧ (strKeys D0).Perm (namesOf es) := by
  have hrd : ∀ x ∈ es.toList, ∃ s : List UInt8, x.key = S s ∧ WideElems.rd (H := H) P k (fun _ => some (.nil, [])) x = some (.string s, .nil) := fun x hx => by
    obtain ⟨s, hs⟩ := hM.key x hx
    refine ⟨s, hs, ?_⟩
    have hlen := hl s x.val (hM.get x hx s hs)
    have h1 : keyOf P k x.key = some (.string s) := by
      rw [hs]
      exact WideMaps.keyOf_string_mk hk (s := mkB s) (by show (mkB s).data.size ≤ _; simpa [mkB] using hlen)
    have := WideElems.rd_mk (R := fun _ => some ((.nil : DataW H), [])) (val := x.val) (born := x.born) h1 rfl
    simpa using this
  have F : WideElems.Fit (H := H) P k (fun _ => some (.nil, [])) es clock := ⟨hs, hM.st, fun x hx => by
    obtain ⟨s, _, h⟩ := hrd x hx
    exact ⟨_, h⟩⟩
  have hrg : ∀ x ∈ es.toList, ∃ s : List UInt8, x.key = S s ∧ WideElems.rg (H := H) P k (fun _ => some (.nil, [])) x = (.string s, .nil) := fun x hx => by
    obtain ⟨s, h1, h2⟩ := hrd x hx
    exact ⟨s, h1, WideElems.rg_of h2⟩
  refine ⟨_, World.ownsMap_of_fit hb F (fun _ _ _ h => h), ?_, ?_⟩
  · rw [Maps.size_eq, (WideShapes.sorted_perm _).length_eq, List.length_map]
    simp
  · show (List.map (fun p : Lit × DataW H => strOf p.1) _).Perm _
    refine ((WideShapes.sorted_perm _).map _).trans ?_
    rw [List.map_map]
    refine List.Perm.of_eq ?_
    unfold namesOf
    refine List.map_congr_left fun x hx => ?_
    obtain ⟨s, h1, h2⟩ := hrg x hx
    simp only [Function.comp, h2, h1]
    rfl
theorem namesOf_nodup {es : Array MapEntry} {clock : Nat} {m : List UInt8 → Option Value} (hM : MapIs es clock m) : (namesOf es).Nodup := by
  unfold namesOf
  have hn := hM.st.2.2
  rw [List.nodup_iff_pairwise_ne, List.pairwise_map] at *
  refine hn.imp_of_mem fun {a b} ha hb h => ?_
  obtain ⟨s, hs⟩ := hM.key a ha
  obtain ⟨t, ht⟩ := hM.key b hb
  rw [hs, ht] at h ⊢
  exact fun e => h (by
    simp only [S, mkB] at e ⊢
    rw [show s = t from by simpa using e])
theorem namesOf_mem {es : Array MapEntry} {clock : Nat} {m : List UInt8 → Option Value} (hM : MapIs es clock m) (s : List UInt8) : s ∈ namesOf es ↔ (m s).isSome = true := by
  unfold namesOf
  rw [List.mem_map]
  constructor
  · rintro ⟨x, hx, e⟩
    obtain ⟨t, ht⟩ := hM.key x hx
    rw [ht] at e
    have : t = s := by simpa [S, mkB] using e
    subst this
    rw [hM.get x hx t ht]
    rfl
  · intro h
    obtain ⟨v, hv⟩ := Option.isSome_iff_exists.1 h
    obtain ⟨x, hx, hk, _⟩ := hM.has s v hv
    exact ⟨x, hx, by rw [hk]; simp [S, mkB]⟩
end Go.TR
/-!
The contract SlLaysZ.n7 of the shelf, laid at this program.
-/
namespace Go.Proofs.YthkkgphjjmhglaaGreatDoor
set_option linter.unusedVariables false
set_option linter.unusedSimpArgs false
open Go.Shelf Go.Proofs
def layKeys_ren : Go.Shelf.Ren := ⟨fun | 7 => 113 | 10 => 149 | n => n, fun | 23 => 193 | 26 => 9 | 3 => 4 | 28 => 196 | 0 => 0 | 27 => 195 | 33 => 51 | 4 => 4 | n => n, fun | n => n⟩
theorem layKeys : SlLaysZ.n7 Tryz.prog layKeys_ren := {
  mixed := by kernel_rfl,
  f7 := ⟨Tryz.f113.name, by kernel_rfl, Tryz.func113.trans (congrArg some (by kernel_rfl))⟩,
  f10 := ⟨Tryz.f149.name, by kernel_rfl, Tryz.func149.trans (congrArg some (by kernel_rfl))⟩,
  t0 := Tryz.underlying0,
  a0 := Tryz.isAgg0,
  z0 := Tryz.sizeOf0,
  v0 := Tryz.zeroValue0,
  t4 := Tryz.underlying4,
  a4 := Tryz.isAgg4,
  z4 := Tryz.sizeOf4,
  v4 := Tryz.zeroValue4,
  t23 := Tryz.underlying193,
  a23 := Tryz.isAgg193,
  z23 := Tryz.sizeOf193,
  v23 := Tryz.zeroValue193,
  t26 := Tryz.underlying9,
  a26 := Tryz.isAgg9,
  z26 := Tryz.sizeOf9,
  v26 := Tryz.zeroValue9,
  t27 := Tryz.underlying195,
  a27 := Tryz.isAgg195,
  z27 := Tryz.sizeOf195,
  v27 := Tryz.zeroValue195,
  t28 := Tryz.underlying196,
  a28 := Tryz.isAgg196,
  z28 := Tryz.sizeOf196,
  v28 := Tryz.zeroValue196,
  t33 := Tryz.underlying51,
  a33 := Tryz.isAgg51,
  z33 := Tryz.sizeOf51,
  v33 := Tryz.zeroValue51 }
end Go.Proofs.YthkkgphjjmhglaaGreatDoor
/-!
The contract SlLaysZ.n8 of the shelf, laid at this program.
-/
namespace Go.Proofs.YthkkgphjjmhglaaGreatDoor
set_option linter.unusedVariables false
set_option linter.unusedSimpArgs false
open Go.Shelf Go.Proofs
def layCollect_ren : Go.Shelf.Ren := ⟨fun | 8 => 112 | 11 => 148 | n => n, fun | 26 => 9 | 28 => 196 | 24 => 72 | 0 => 0 | 33 => 51 | 4 => 4 | n => n, fun | n => n⟩
theorem layCollect : SlLaysZ.n8 Tryz.prog layCollect_ren := {
  mixed := by kernel_rfl,
  f8 := ⟨Tryz.f112.name, by kernel_rfl, Tryz.func112.trans (congrArg some (by kernel_rfl))⟩,
  f11 := ⟨Tryz.f148.name, by kernel_rfl, Tryz.func148.trans (congrArg some (by kernel_rfl))⟩,
  t0 := Tryz.underlying0,
  a0 := Tryz.isAgg0,
  z0 := Tryz.sizeOf0,
  v0 := Tryz.zeroValue0,
  t24 := Tryz.underlying72,
  a24 := Tryz.isAgg72,
  z24 := Tryz.sizeOf72,
  v24 := Tryz.zeroValue72,
  t26 := Tryz.underlying9,
  a26 := Tryz.isAgg9,
  z26 := Tryz.sizeOf9,
  v26 := Tryz.zeroValue9,
  t28 := Tryz.underlying196,
  a28 := Tryz.isAgg196,
  z28 := Tryz.sizeOf196,
  v28 := Tryz.zeroValue196,
  i26 := by kernel_rfl }
end Go.Proofs.YthkkgphjjmhglaaGreatDoor
/-!
The keys of a map of names, collected: as many as there are names.
-/
namespace Go.Proofs.YthkkgphjjmhglaaGreatDoor
set_option linter.unusedVariables false
set_option linter.unusedSimpArgs false
open Go.TR Go.RowKit Go.Shelf Go.Proofs
theorem keys_ok (mb : Nat) (F : Hp) : CallF Tryz.prog F 113 [.map (some mb)] (fun x F' => ∃ b, x = .func (.func 149) #[] #[.pointer (some ⟨b, 0, none⟩)] ∧ Fcell F' ⟨b, 0, none⟩ = some (.map (some mb))) := by
  intro w hw
  refine (callsIn_wide.1 (AnyZ.keys_in layKeys Fence.wide 3 trivial rfl (some mb) w)).mono ?_
  rintro e w' ⟨rfl, rfl⟩
  have hb : F w.heap.size = none := by
    cases h : F w.heap.size with
    | none => rfl
    | some o => have := hw _ _ h; simp at this
  have hbl : Below w.heap.size w (w.alloc (.cells #[.map (some mb)] 193)) := (Below.refl _ w).alloc (Nat.le_refl _) _
  refine ⟨_, F.plus w.heap.size (.cells #[.map (some mb)] 193), [], rfl, fun k o e => ?_, fun k o e => ?_, ⟨hbl.os, hbl.tape, hbl.output, hbl.size, fun k hk _ => hbl.block k hk⟩, fun k hk => ?_, ⟨fun id r h => by simp [lkR] at h, fun i j r s b h => by simp [lkR] at h⟩, fun id r b h => by simp [lkR] at h, rfl, w.heap.size, rfl, ?_⟩
  · unfold Hp.plus
    rw [if_neg (by rintro rfl; rw [hb] at e; cases e)]
    exact e
  · unfold Hp.plus at e
    split at e
    · rename_i hk
      cases e
      rw [hk]; exact World.alloc_heap_new w _
    · have := hw _ _ e
      exact (hbl.block k (Array.getElem?_eq_some_iff.1 this).1).trans this
  · unfold Hp.plus at hk
    split at hk
    · rename_i h; exact .inr (by omega)
    · exact .inl hk
  · simp [Fcell, Hp.plus]
theorem collect_ok {es : Array MapEntry} {clock mb b : Nat} {m : List UInt8 → Option Value} {F : Hp} (hF : F mb = some (.map es clock)) (hM : MapIs es clock m) (hb : Fcell F ⟨b, 0, none⟩ = some (.map (some mb))) (hs : es.size ≤ 1000000) (hl : ∀ s v, m s = some v → s.length ≤ 4611686018427387904) :
    CallF Tryz.prog F 112 [.func (.func 149) #[] #[.pointer (some ⟨b, 0, none⟩)]] (fun x F' => ∃ p c, x = .slice p es.size c) := by
  intro w hw
  obtain ⟨D0, h1, h2, h3⟩ := owns_of (H := Unit) Tryz.underlying9 (hw _ _ hF) hM (by unfold maxLen; omega) (fun s v h => by have := hl s v h; unfold maxLen; omega)
  have hBm : b < w.heap.size := by
    have := Fcell.world hw hb
    unfold World.cell? at this
    split at this
    · rename_i h; exact (Array.getElem?_eq_some_iff.1 h).1
    · cases this
  have eg : ∀ args w, (callFunc 149 args).run Tryz.prog w = .ok (.enter 149 args) w := enters_of Tryz.func149 (by kernel_rfl) rfl
  have hgive := AnyZ.keys_gives (L := { layKeys with }) Fence.wide 4 trivial rfl (by decide) b mb es.size D0 w hBm (Fcell.world hw hb) h1
  rw [h2] at hgive
  have hc := AnyZ.collect_in layCollect Fence.wide 6 trivial trivial rfl (by decide) 149 #[.pointer (some ⟨b, 0, none⟩)] trivial eg _ es.size (by unfold maxLen; omega) (by omega) w hgive
  refine (callsIn_wide.1 hc).mono ?_
  rintro e w' ⟨v, ss, rfl, hp, hrow, _, hbl⟩
  have hlen : ss.length = es.size := by
    rw [hp.length_eq, h3.length_eq]
    unfold namesOf
    simp
  refine ⟨_, F, [], rfl, fun _ _ h => h, fun k o e => ?_, ⟨hbl.os, hbl.tape, hbl.output, hbl.size, fun k hk _ => hbl.block k hk⟩, fun k hk => .inl hk, ⟨fun id r h => by simp [lkR] at h, fun i j r s b h => by simp [lkR] at h⟩, fun id r b h => by simp [lkR] at h, rfl, ?_⟩
  · have := hw _ _ e
    exact (hbl.block k (Array.getElem?_eq_some_iff.1 this).1).trans this
  · rcases hrow.2 with ⟨rfl, h0⟩ | ⟨g, cap, cur, rfl, _⟩
    · exact ⟨none, 0, by rw [← hlen, h0]⟩
    · exact ⟨_, _, by rw [hlen]⟩
/-- As many keys as names. -/
theorem keys_len {es : Array MapEntry} {clock : Nat} {m : List UInt8 → Option Value} (hM : MapIs es clock m) {L : List (List UInt8)} (h : ∀ s, (m s).isSome = true ↔ s ∈ L) : es.size = (ordN L).length := by
  have e1 : (namesOf es).length = es.size := by unfold namesOf; simp
  rw [← e1]
  have hm : ∀ s, s ∈ namesOf es ↔ s ∈ ordN L := fun s => by rw [namesOf_mem hM, h, ordN_mem]
  exact Nat.le_antisymm (nodup_le (namesOf_nodup hM) (fun s hs => (hm s).1 hs)) (nodup_le (rise_nodup (ordN_rise L)) (fun s hs => (hm s).2 hs))
end Go.Proofs.YthkkgphjjmhglaaGreatDoor
/-!
Package clerk: names: the walk.
-/
namespace Go.Proofs.YthkkgphjjmhglaaGreatDoor
set_option linter.unusedVariables false
set_option linter.unusedSimpArgs false
open Go.TR
/-- The map holds just these names. -/
def Holds (m : List UInt8 → Option Value) (L : List (List UInt8)) : Prop := ∀ s, (m s).isSome = true ↔ s ∈ L
theorem Holds.nil : Holds (fun _ => none) [] := fun s => by simp
theorem Holds.step {m : List UInt8 → Option Value} {L : List (List UInt8)} (h : Holds m L) (q : List UInt8) (v : Value) : Holds (updM m q v) (L ++ [q]) := fun s => by
  unfold updM
  by_cases hs : s = q
  · rw [if_pos hs]; simp [hs]
  · rw [if_neg hs, h s]; simp [hs]
theorem und_mapb : Tryz.prog.underlying 193 = some (.map 9 4) := Tryz.underlying193
theorem und_keyb : Tryz.prog.underlying 9 = some .string := Tryz.underlying9
attribute [local irreducible] vc vcOps seqK blockK loopK retK retG retI loopV Plain CallOK CallIn bodied VS vcAny dropG backK brK loopPK IntKind.wrap
attribute [local irreducible] bookFault lvlN lastB Hp.plus updM ordN
set_option maxRecDepth 100000
set_option maxHeartbeats 4000000
theorem names_ok (c : Clerk) (a : CLay) (bs : List Bk) (more : List (List UInt8)) (hw : c.wf) (h0 : 0 < c.books.length) (hb : bs.map (·.2.1) = c.books) (hlen : (namesL c more).length ≤ 1000000) (hm : ∀ s ∈ more, s.length ≤ 4611686018427387904) {F : Hp} (hfw : Frow F a.w (c.queue.wait.flatMap Ask.cells)) (hfb : Frow F a.b (bs.map Bk.v)) (hbs : ∀ s ∈ bs, Bk.at F s) {pm : Option Addr} {cm : Nat} (hfm : Frow F pm (more.map S)) :
    Plain Tryz.prog F 61 [c.v a, .slice pm more.length cm] (i64 ((namesN c more : Nat) : Int)) := by
  refine plain_vc (N := 49) (rv := [.tmp 4]) tbok mixed Tryz.func61 rfl rfl rfl rfl rfl ?_
  (refine run ?_; repeat intro b)
  refine s_makeMap rfl (fun b0 hb0 => ?_)
  have hs0 : F.sub (F.plus b0 (.map #[] 0)) := plus_sub hb0
  obtain ⟨sl, hsl, hsl2, hlast⟩ := last_ok c a bs h0 hw.blen hb (frow_sub hs0 hfb)
  have hrow : Frow F sl.1 ((lastB c).flatMap Entry.row) := by rw [← hsl2]; exact (hbs sl hsl).2
  have hwl : ∀ x ∈ lastB c, x.wf := (hw.books _ (lastB_mem h0)).2
  have hN : (lastB c).length + c.queue.wait.length + more.length ≤ 1000000 := by
    have := hlen
    unfold namesL at this
    simp only [List.length_append, List.length_map] at this
    omega
  have hnames : namesL c more = (lastB c).map Entry.name ++ c.queue.wait.map Ask.name ++ more := rfl
  have hbig : ∀ s ∈ namesL c more, s.length ≤ 4611686018427387904 := fun s hs => by
    rw [hnames] at hs
    rcases List.mem_append.1 hs with hs | hs
    · rcases List.mem_append.1 hs with hs | hs
      · obtain ⟨x, hx, rfl⟩ := List.mem_map.1 hs
        exact (hwl x hx).1
      · obtain ⟨x, hx, rfl⟩ := List.mem_map.1 hs
        exact (hw.queue.wait x hx).name
    · exact hm s hs
  obtain ⟨ps, ls, cs⟩ := sl
  simp only at hsl2 hrow
  subst hsl2
  unfold namesN
  rw [hnames] at hbig ⊢
  generalize lastB c = ls at *
  generalize namesL c more = LL at hnames hlen
  (refine run ?_; repeat intro b)
  refine s_plain _ rfl rfl rfl bd65 rfl hlast ?_
  (refine run ?_; repeat intro b)
  revert b; intro b2
  refine s_loopP (fun q : Nat × Array MapEntry × Nat × Hp => q.1 ≤ ls.length ∧ F.sub q.2.2.2 ∧ q.2.2.2 b0 = some (.map q.2.1 q.2.2.1) ∧ ∃ m, MapIs q.2.1 q.2.2.1 m ∧ Holds m (((ls.take q.1).map Entry.name)))
    (fun q => ⟨[(1, .v (.slice pm more.length cm)), (2, .loc 0 0), (5, .v (.map (some b0))), (14, .v (.slice ps ls.length cs)), (15, .v (i64 (ls.length : Nat))), (16, .v (i64 (q.1 : Nat)))], q.2.2.2, [(1, Go.TR.mark b0), (0, ⟨some b2, [.v (i64 c.queue.most), .v (.slice a.w c.queue.wait.length a.cw), .v (i64 c.batch), .v (i64 c.every), .v (i64 c.now), .v (.slice a.h c.heads.length a.ch), .v (.slice a.b c.books.length a.cb)], 28, 7⟩)], 2⟩) (fun q => ls.length - q.1) (0, #[], 0, F.plus b0 (.map #[] 0))
    ⟨Nat.zero_le _, hs0, plus_self .., _, MapIs.empty, Holds.nil⟩ (VS.keepN [1, 2, 5, 14, 15, 16] rfl rfl) ?_
  rintro ⟨k, es, clock, G⟩ ⟨hk, hs, hG, m, hM, hL⟩
  dsimp only at hk hs hG hM hL ⊢
  by_cases hlt : k < ls.length
  · have htk : ls.take (k + 1) = ls.take k ++ [ls[k]] := List.take_succ_eq_append_getElem hlt
    have hf0 := frow_sub hs hrow
    obtain ⟨o1, o2⟩ := frow_agg entry_row (by decide) hf0 k hlt
    have hgx : (ls.take (k + 1)).map Entry.name = (ls.take k).map Entry.name ++ [ls[k].name] := by rw [htk, List.map_append]; rfl
    generalize ls[k] = x at o2 hgx
    (refine run ?_; repeat intro b)
    refine s_if true (by rw [← decide_eq_true (p := ((k : Nat) : Int) < ((ls.length : Nat) : Int)) (by omega)]; rfl) (fun _ => ?_) (fun h => by cases h)
    (refine run ?_; repeat intro b)
    refine s_pureO rfl rfl rfl ⟨by omega, by omega, frow_some hf0 (j := k * 2) (by rw [flat_len entry_row]; omega)⟩ ?_
    refine s_loadA x.row rfl rfl rfl rfl rfl (by rw [Int.toNat_natCast]; exact o1) (by rw [Int.toNat_natCast]; exact o2) ?_
    (refine run ?_; repeat intro b)
    refine s_mapUpdate (id := 1) m x.name und_mapb und_keyb rfl rfl rfl rfl (mark_at b0) (Nat.le_refl _) hG hM (fun es2 clock2 hM2 => ?_)
    (refine run ?_; repeat intro b)
    rw [wrap_succ (by omega)]
    exact s_loopPc (k + 1, es2, clock2, G.plus b0 (.map es2 clock2)) [2] [1, 2, 5, 14, 15, 16] ⟨hlt, fun j o hj => by show (G.plus b0 _) j = some o; rw [plus_other (by rintro rfl; rw [hb0] at hj; cases hj)]; exact hs j o hj, plus_self .., _, hM2, by
      have := hL.step x.name (.bool true)
      rw [hgx]; exact this⟩ (by simp only; omega) rfl rfl rfl rfl ⟨⟨(show 1 < 2 by decide), fun e he => vals_lt [_] e he⟩, ⟨(show 0 < 2 by decide), fun e he => vals_lt [_, _, _, _, _, _, _] e he⟩, trivial⟩ rfl
  have hge : k = ls.length := by omega
  subst hge
  rw [List.take_length] at hL
  (refine run ?_; repeat intro b)
  refine s_if false (by rw [← decide_eq_false (p := ((ls.length : Nat) : Int) < ((ls.length : Nat) : Int)) (by omega)]; rfl) (fun h => by cases h) (fun _ => ?_)
  (refine run ?_; repeat intro b)
  refine s_loopP (fun q : Nat × Array MapEntry × Nat × Hp => q.1 ≤ c.queue.wait.length ∧ F.sub q.2.2.2 ∧ q.2.2.2 b0 = some (.map q.2.1 q.2.2.1) ∧ ∃ m, MapIs q.2.1 q.2.2.1 m ∧ Holds m (ls.map Entry.name ++ ((c.queue.wait.take q.1).map Ask.name)))
    (fun q => ⟨[(1, .v (.slice pm more.length cm)), (2, .loc 0 0), (5, .v (.map (some b0))), (26, .v (.slice a.w c.queue.wait.length a.cw)), (27, .v (i64 (c.queue.wait.length : Nat))), (28, .v (i64 (q.1 : Nat)))], q.2.2.2, [(1, Go.TR.mark b0), (0, ⟨some b2, [.v (i64 c.queue.most), .v (.slice a.w c.queue.wait.length a.cw), .v (i64 c.batch), .v (i64 c.every), .v (i64 c.now), .v (.slice a.h c.heads.length a.ch), .v (.slice a.b c.books.length a.cb)], 28, 7⟩)], 2⟩) (fun q => c.queue.wait.length - q.1) (0, es, clock, G)
    ⟨Nat.zero_le _, hs, hG, m, hM, by rw [List.take_zero, List.map_nil, List.append_nil]; exact hL⟩ (VS.keepN [1, 2, 5, 26, 27, 28] rfl rfl) ?_
  rintro ⟨k, es, clock, G⟩ ⟨hk, hs, hG, m, hM, hL⟩
  dsimp only at hk hs hG hM hL ⊢
  by_cases hlt : k < c.queue.wait.length
  · have htk : c.queue.wait.take (k + 1) = c.queue.wait.take k ++ [c.queue.wait[k]] := List.take_succ_eq_append_getElem hlt
    have hf0 := frow_sub hs hfw
    obtain ⟨o1, o2⟩ := frow_agg ask_cells (by decide) hf0 k hlt
    have hgx : (c.queue.wait.take (k + 1)).map Ask.name = (c.queue.wait.take k).map Ask.name ++ [c.queue.wait[k].name] := by rw [htk, List.map_append]; rfl
    generalize c.queue.wait[k] = x at o2 hgx
    (refine run ?_; repeat intro b)
    refine s_if true (by rw [← decide_eq_true (p := ((k : Nat) : Int) < ((c.queue.wait.length : Nat) : Int)) (by omega)]; rfl) (fun _ => ?_) (fun h => by cases h)
    (refine run ?_; repeat intro b)
    refine s_pureO rfl rfl rfl ⟨by omega, by omega, frow_some hf0 (j := k * 4) (by rw [flat_len ask_cells]; omega)⟩ ?_
    refine s_loadA x.cells rfl rfl rfl rfl rfl (by rw [Int.toNat_natCast]; exact o1) (by rw [Int.toNat_natCast]; exact o2) ?_
    (refine run ?_; repeat intro b)
    refine s_mapUpdate (id := 1) m x.name und_mapb und_keyb rfl rfl rfl rfl (mark_at b0) (Nat.le_refl _) hG hM (fun es2 clock2 hM2 => ?_)
    (refine run ?_; repeat intro b)
    rw [wrap_succ (by omega)]
    exact s_loopPc (k + 1, es2, clock2, G.plus b0 (.map es2 clock2)) [2] [1, 2, 5, 26, 27, 28] ⟨hlt, fun j o hj => by show (G.plus b0 _) j = some o; rw [plus_other (by rintro rfl; rw [hb0] at hj; cases hj)]; exact hs j o hj, plus_self .., _, hM2, by
      have := hL.step x.name (.bool true)
      rw [hgx, ← List.append_assoc]; exact this⟩ (by simp only; omega) rfl rfl rfl rfl ⟨⟨(show 1 < 2 by decide), fun e he => vals_lt [_] e he⟩, ⟨(show 0 < 2 by decide), fun e he => vals_lt [_, _, _, _, _, _, _] e he⟩, trivial⟩ rfl
  have hge : k = c.queue.wait.length := by omega
  subst hge
  rw [List.take_length] at hL
  (refine run ?_; repeat intro b)
  refine s_if false (by rw [← decide_eq_false (p := ((c.queue.wait.length : Nat) : Int) < ((c.queue.wait.length : Nat) : Int)) (by omega)]; rfl) (fun h => by cases h) (fun _ => ?_)
  (refine run ?_; repeat intro b)
  refine s_loopP (fun q : Nat × Array MapEntry × Nat × Hp => q.1 ≤ more.length ∧ F.sub q.2.2.2 ∧ q.2.2.2 b0 = some (.map q.2.1 q.2.2.1) ∧ ∃ m, MapIs q.2.1 q.2.2.1 m ∧ Holds m (ls.map Entry.name ++ c.queue.wait.map Ask.name ++ ((more.take q.1).map id)))
    (fun q => ⟨[(1, .v (.slice pm more.length cm)), (2, .loc 0 0), (5, .v (.map (some b0))), (36, .v (.slice pm more.length cm)), (37, .v (i64 (more.length : Nat))), (38, .v (i64 (q.1 : Nat)))], q.2.2.2, [(1, Go.TR.mark b0), (0, ⟨some b2, [.v (i64 c.queue.most), .v (.slice a.w c.queue.wait.length a.cw), .v (i64 c.batch), .v (i64 c.every), .v (i64 c.now), .v (.slice a.h c.heads.length a.ch), .v (.slice a.b c.books.length a.cb)], 28, 7⟩)], 2⟩) (fun q => more.length - q.1) (0, es, clock, G)
    ⟨Nat.zero_le _, hs, hG, m, hM, by rw [List.take_zero, List.map_nil, List.append_nil]; exact hL⟩ (VS.keepN [1, 2, 5, 36, 37, 38] rfl rfl) ?_
  rintro ⟨k, es, clock, G⟩ ⟨hk, hs, hG, m, hM, hL⟩
  dsimp only at hk hs hG hM hL ⊢
  by_cases hlt : k < more.length
  · have htk : more.take (k + 1) = more.take k ++ [more[k]] := List.take_succ_eq_append_getElem hlt
    have hf0 := frow_sub hs hfm
    have hgx : (more.take (k + 1)) = (more.take k) ++ [more[k]] := htk
    have hc := frow_get hf0 (j := k) (by rw [List.length_map]; exact hlt)
    rw [List.getElem_map] at hc
    generalize more[k] = x at hc hgx
    (refine run ?_; repeat intro b)
    refine s_if true (by rw [← decide_eq_true (p := ((k : Nat) : Int) < ((more.length : Nat) : Int)) (by omega)]; rfl) (fun _ => ?_) (fun h => by cases h)
    (refine run ?_; repeat intro b)
    refine s_pureO rfl rfl rfl ⟨by omega, by omega, frow_some hf0 (j := k) (by rw [List.length_map]; omega)⟩ ?_
    refine s_load (S x) rfl rfl rfl rfl (by rw [Int.toNat_natCast, Nat.mul_one]; exact hc) ?_
    (refine run ?_; repeat intro b)
    refine s_mapUpdate (id := 1) m x und_mapb und_keyb rfl rfl rfl rfl (mark_at b0) (Nat.le_refl _) hG hM (fun es2 clock2 hM2 => ?_)
    (refine run ?_; repeat intro b)
    rw [wrap_succ (by omega)]
    exact s_loopPc (k + 1, es2, clock2, G.plus b0 (.map es2 clock2)) [] [1, 2, 5, 36, 37, 38] ⟨hlt, fun j o hj => by show (G.plus b0 _) j = some o; rw [plus_other (by rintro rfl; rw [hb0] at hj; cases hj)]; exact hs j o hj, plus_self .., _, hM2, by
      have := hL.step x (.bool true)
      rw [hgx, List.map_id, ← List.append_assoc]; rw [List.map_id] at this; exact this⟩ (by simp only; omega) rfl rfl rfl rfl ⟨⟨(show 1 < 2 by decide), fun e he => vals_lt [_] e he⟩, ⟨(show 0 < 2 by decide), fun e he => vals_lt [_, _, _, _, _, _, _] e he⟩, trivial⟩ rfl
  have hge : k = more.length := by omega
  subst hge
  rw [List.take_length] at hL
  (refine run ?_; repeat intro b)
  refine s_if false (by rw [← decide_eq_false (p := ((more.length : Nat) : Int) < ((more.length : Nat) : Int)) (by omega)]; rfl) (fun h => by cases h) (fun _ => ?_)
  (refine run ?_; repeat intro b)
  rw [List.map_id] at hL
  have hL2 : ∀ s, (m s).isSome = true ↔ s ∈ LL := fun s => by rw [hnames]; exact hL s
  have hsz : es.size = (ordN LL).length := keys_len hM hL2
  have hle := ordN_len LL
  rw [← hnames] at hbig ⊢
  rw [← hsz]
  refine s_callF rfl rfl rfl bd113 rfl (keys_ok b0 G) ?_
  rintro _ G1 hG1 ⟨b5, rfl, hb5⟩
  (refine run ?_; repeat intro b)
  refine s_callF rfl rfl rfl bd112 rfl (collect_ok (hG1 _ _ hG) hM hb5 (by omega) (fun s v h => hbig s ((hL2 s).1 (by rw [h]; rfl)))) ?_
  rintro _ G2 hG2 ⟨p6, c6, rfl⟩
  (refine run ?_; repeat intro b)
  rfl
end Go.Proofs.YthkkgphjjmhglaaGreatDoor
