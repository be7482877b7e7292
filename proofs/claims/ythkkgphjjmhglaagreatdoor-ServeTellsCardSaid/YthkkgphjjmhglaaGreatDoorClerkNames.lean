/-
Package clerk: names: the walk.
-/
import Derived.Test.YthkkgphjjmhglaaGreatDoorSetClerk1
import Derived.Test.YthkkgphjjmhglaaGreatDoorSetNamesMap
import Derived.Test.YthkkgphjjmhglaaGreatDoorLevels
import Derived.Test.YthkkgphjjmhglaaGreatDoorSetPath
namespace Go.Proofs.YthkkgphjjmhglaaGreatDoor
set_option linter.unusedVariables false
set_option linter.unusedSimpArgs false
open Go.TR
/-- The map holds just these names. -/
def Holds (m : List UInt8 → Option Value) (L : List (List UInt8)) : Prop := ∀ s, (m s).isSome = true ↔ s ∈ L
theorem Holds.nil : Holds (fun _ => none) [] := fun s => by simp
theorem Holds.step {m : List UInt8 → Option Value} {L : List (List UInt8)} (h : Holds m L) (q : List UInt8) (v : Value) : Holds (updM m q v) (L ++ [q]) := fun s => by
  unfold updM
  by_cases hs : s = q
  · rw [if_pos hs]; simp [hs]
  · rw [if_neg hs, h s]; simp [hs]
theorem und_mapb : Tryz.prog.underlying 193 = some (.map 9 4) := Tryz.underlying193
theorem und_keyb : Tryz.prog.underlying 9 = some .string := Tryz.underlying9
attribute [local irreducible] vc vcOps seqK blockK loopK retK retG retI loopV Plain CallOK CallIn bodied VS vcAny dropG backK brK loopPK IntKind.wrap
attribute [local irreducible] bookFault lvlN lastB Hp.plus updM ordN
set_option maxRecDepth 100000
set_option maxHeartbeats 4000000
theorem names_ok (c : Clerk) (a : CLay) (bs : List Bk) (more : List (List UInt8)) (hw : c.wf) (h0 : 0 < c.books.length) (hb : bs.map (·.2.1) = c.books) (hlen : (namesL c more).length ≤ 1000000) (hm : ∀ s ∈ more, s.length ≤ 4611686018427387904) {F : Hp} (hfw : Frow F a.w (c.queue.wait.flatMap Ask.cells)) (hfb : Frow F a.b (bs.map Bk.v)) (hbs : ∀ s ∈ bs, Bk.at F s) {pm : Option Addr} {cm : Nat} (hfm : Frow F pm (more.map S)) :
    Plain Tryz.prog F 61 [c.v a, .slice pm more.length cm] (i64 ((namesN c more : Nat) : Int)) := by
  refine plain_vc (N := 49) (rv := [.tmp 4]) tbok mixed Tryz.func61 rfl rfl rfl rfl rfl ?_
  (refine run ?_; repeat intro b)
  refine s_makeMap rfl (fun b0 hb0 => ?_)
  have hs0 : F.sub (F.plus b0 (.map #[] 0)) := plus_sub hb0
  obtain ⟨sl, hsl, hsl2, hlast⟩ := last_ok c a bs h0 hw.blen hb (frow_sub hs0 hfb)
  have hrow : Frow F sl.1 ((lastB c).flatMap Entry.row) := by rw [← hsl2]; exact (hbs sl hsl).2
  have hwl : ∀ x ∈ lastB c, x.wf := (hw.books _ (lastB_mem h0)).2
  have hN : (lastB c).length + c.queue.wait.length + more.length ≤ 1000000 := by
    have := hlen
    unfold namesL at this
    simp only [List.length_append, List.length_map] at this
    omega
  have hnames : namesL c more = (lastB c).map Entry.name ++ c.queue.wait.map Ask.name ++ more := rfl
  have hbig : ∀ s ∈ namesL c more, s.length ≤ 4611686018427387904 := fun s hs => by
    rw [hnames] at hs
    rcases List.mem_append.1 hs with hs | hs
    · rcases List.mem_append.1 hs with hs | hs
      · obtain ⟨x, hx, rfl⟩ := List.mem_map.1 hs
        exact (hwl x hx).1
      · obtain ⟨x, hx, rfl⟩ := List.mem_map.1 hs
        exact (hw.queue.wait x hx).name
    · exact hm s hs
  obtain ⟨ps, ls, cs⟩ := sl
  simp only at hsl2 hrow
  subst hsl2
  unfold namesN
  rw [hnames] at hbig ⊢
  generalize lastB c = ls at *
  generalize namesL c more = LL at hnames hlen
  (refine run ?_; repeat intro b)
  refine s_plain _ rfl rfl rfl bd65 rfl hlast ?_
  (refine run ?_; repeat intro b)
  revert b; intro b2
  refine s_loopP (fun q : Nat × Array MapEntry × Nat × Hp => q.1 ≤ ls.length ∧ F.sub q.2.2.2 ∧ q.2.2.2 b0 = some (.map q.2.1 q.2.2.1) ∧ ∃ m, MapIs q.2.1 q.2.2.1 m ∧ Holds m (((ls.take q.1).map Entry.name)))
    (fun q => ⟨[(1, .v (.slice pm more.length cm)), (2, .loc 0 0), (5, .v (.map (some b0))), (14, .v (.slice ps ls.length cs)), (15, .v (i64 (ls.length : Nat))), (16, .v (i64 (q.1 : Nat)))], q.2.2.2, [(1, Go.TR.mark b0), (0, ⟨some b2, [.v (i64 c.queue.most), .v (.slice a.w c.queue.wait.length a.cw), .v (i64 c.batch), .v (i64 c.every), .v (i64 c.now), .v (.slice a.h c.heads.length a.ch), .v (.slice a.b c.books.length a.cb)], 28, 7⟩)], 2⟩) (fun q => ls.length - q.1) (0, #[], 0, F.plus b0 (.map #[] 0))
    ⟨Nat.zero_le _, hs0, plus_self .., _, MapIs.empty, Holds.nil⟩ (VS.keepN [1, 2, 5, 14, 15, 16] rfl rfl) ?_
  rintro ⟨k, es, clock, G⟩ ⟨hk, hs, hG, m, hM, hL⟩
  dsimp only at hk hs hG hM hL ⊢
  by_cases hlt : k < ls.length
  · have htk : ls.take (k + 1) = ls.take k ++ [ls[k]] := List.take_succ_eq_append_getElem hlt
    have hf0 := frow_sub hs hrow
    obtain ⟨o1, o2⟩ := frow_agg entry_row (by decide) hf0 k hlt
    have hgx : (ls.take (k + 1)).map Entry.name = (ls.take k).map Entry.name ++ [ls[k].name] := by rw [htk, List.map_append]; rfl
    generalize ls[k] = x at o2 hgx
    (refine run ?_; repeat intro b)
    refine s_if true (by rw [← decide_eq_true (p := ((k : Nat) : Int) < ((ls.length : Nat) : Int)) (by omega)]; rfl) (fun _ => ?_) (fun h => by cases h)
    (refine run ?_; repeat intro b)
    refine s_pureO rfl rfl rfl ⟨by omega, by omega, frow_some hf0 (j := k * 2) (by rw [flat_len entry_row]; omega)⟩ ?_
    refine s_loadA x.row rfl rfl rfl rfl rfl (by rw [Int.toNat_natCast]; exact o1) (by rw [Int.toNat_natCast]; exact o2) ?_
    (refine run ?_; repeat intro b)
    refine s_mapUpdate (id := 1) m x.name und_mapb und_keyb rfl rfl rfl rfl (mark_at b0) (Nat.le_refl _) hG hM (fun es2 clock2 hM2 => ?_)
    (refine run ?_; repeat intro b)
    rw [wrap_succ (by omega)]
    exact s_loopPc (k + 1, es2, clock2, G.plus b0 (.map es2 clock2)) [2] [1, 2, 5, 14, 15, 16] ⟨hlt, fun j o hj => by show (G.plus b0 _) j = some o; rw [plus_other (by rintro rfl; rw [hb0] at hj; cases hj)]; exact hs j o hj, plus_self .., _, hM2, by
      have := hL.step x.name (.bool true)
      rw [hgx]; exact this⟩ (by simp only; omega) rfl rfl rfl rfl ⟨⟨(show 1 < 2 by decide), fun e he => vals_lt [_] e he⟩, ⟨(show 0 < 2 by decide), fun e he => vals_lt [_, _, _, _, _, _, _] e he⟩, trivial⟩ rfl
  have hge : k = ls.length := by omega
  subst hge
  rw [List.take_length] at hL
  (refine run ?_; repeat intro b)
  refine s_if false (by rw [← decide_eq_false (p := ((ls.length : Nat) : Int) < ((ls.length : Nat) : Int)) (by omega)]; rfl) (fun h => by cases h) (fun _ => ?_)
  (refine run ?_; repeat intro b)
  refine s_loopP (fun q : Nat × Array MapEntry × Nat × Hp => q.1 ≤ c.queue.wait.length ∧ F.sub q.2.2.2 ∧ q.2.2.2 b0 = some (.map q.2.1 q.2.2.1) ∧ ∃ m, MapIs q.2.1 q.2.2.1 m ∧ Holds m (ls.map Entry.name ++ ((c.queue.wait.take q.1).map Ask.name)))
    (fun q => ⟨[(1, .v (.slice pm more.length cm)), (2, .loc 0 0), (5, .v (.map (some b0))), (26, .v (.slice a.w c.queue.wait.length a.cw)), (27, .v (i64 (c.queue.wait.length : Nat))), (28, .v (i64 (q.1 : Nat)))], q.2.2.2, [(1, Go.TR.mark b0), (0, ⟨some b2, [.v (i64 c.queue.most), .v (.slice a.w c.queue.wait.length a.cw), .v (i64 c.batch), .v (i64 c.every), .v (i64 c.now), .v (.slice a.h c.heads.length a.ch), .v (.slice a.b c.books.length a.cb)], 28, 7⟩)], 2⟩) (fun q => c.queue.wait.length - q.1) (0, es, clock, G)
    ⟨Nat.zero_le _, hs, hG, m, hM, by rw [List.take_zero, List.map_nil, List.append_nil]; exact hL⟩ (VS.keepN [1, 2, 5, 26, 27, 28] rfl rfl) ?_
  rintro ⟨k, es, clock, G⟩ ⟨hk, hs, hG, m, hM, hL⟩
  dsimp only at hk hs hG hM hL ⊢
  by_cases hlt : k < c.queue.wait.length
  · have htk : c.queue.wait.take (k + 1) = c.queue.wait.take k ++ [c.queue.wait[k]] := List.take_succ_eq_append_getElem hlt
    have hf0 := frow_sub hs hfw
    obtain ⟨o1, o2⟩ := frow_agg ask_cells (by decide) hf0 k hlt
    have hgx : (c.queue.wait.take (k + 1)).map Ask.name = (c.queue.wait.take k).map Ask.name ++ [c.queue.wait[k].name] := by rw [htk, List.map_append]; rfl
    generalize c.queue.wait[k] = x at o2 hgx
    (refine run ?_; repeat intro b)
    refine s_if true (by rw [← decide_eq_true (p := ((k : Nat) : Int) < ((c.queue.wait.length : Nat) : Int)) (by omega)]; rfl) (fun _ => ?_) (fun h => by cases h)
    (refine run ?_; repeat intro b)
    refine s_pureO rfl rfl rfl ⟨by omega, by omega, frow_some hf0 (j := k * 4) (by rw [flat_len ask_cells]; omega)⟩ ?_
    refine s_loadA x.cells rfl rfl rfl rfl rfl (by rw [Int.toNat_natCast]; exact o1) (by rw [Int.toNat_natCast]; exact o2) ?_
    (refine run ?_; repeat intro b)
    refine s_mapUpdate (id := 1) m x.name und_mapb und_keyb rfl rfl rfl rfl (mark_at b0) (Nat.le_refl _) hG hM (fun es2 clock2 hM2 => ?_)
    (refine run ?_; repeat intro b)
    rw [wrap_succ (by omega)]
    exact s_loopPc (k + 1, es2, clock2, G.plus b0 (.map es2 clock2)) [2] [1, 2, 5, 26, 27, 28] ⟨hlt, fun j o hj => by show (G.plus b0 _) j = some o; rw [plus_other (by rintro rfl; rw [hb0] at hj; cases hj)]; exact hs j o hj, plus_self .., _, hM2, by
      have := hL.step x.name (.bool true)
      rw [hgx, ← List.append_assoc]; exact this⟩ (by simp only; omega) rfl rfl rfl rfl ⟨⟨(show 1 < 2 by decide), fun e he => vals_lt [_] e he⟩, ⟨(show 0 < 2 by decide), fun e he => vals_lt [_, _, _, _, _, _, _] e he⟩, trivial⟩ rfl
  have hge : k = c.queue.wait.length := by omega
  subst hge
  rw [List.take_length] at hL
  (refine run ?_; repeat intro b)
  refine s_if false (by rw [← decide_eq_false (p := ((c.queue.wait.length : Nat) : Int) < ((c.queue.wait.length : Nat) : Int)) (by omega)]; rfl) (fun h => by cases h) (fun _ => ?_)
  (refine run ?_; repeat intro b)
  refine s_loopP (fun q : Nat × Array MapEntry × Nat × Hp => q.1 ≤ more.length ∧ F.sub q.2.2.2 ∧ q.2.2.2 b0 = some (.map q.2.1 q.2.2.1) ∧ ∃ m, MapIs q.2.1 q.2.2.1 m ∧ Holds m (ls.map Entry.name ++ c.queue.wait.map Ask.name ++ ((more.take q.1).map id)))
    (fun q => ⟨[(1, .v (.slice pm more.length cm)), (2, .loc 0 0), (5, .v (.map (some b0))), (36, .v (.slice pm more.length cm)), (37, .v (i64 (more.length : Nat))), (38, .v (i64 (q.1 : Nat)))], q.2.2.2, [(1, Go.TR.mark b0), (0, ⟨some b2, [.v (i64 c.queue.most), .v (.slice a.w c.queue.wait.length a.cw), .v (i64 c.batch), .v (i64 c.every), .v (i64 c.now), .v (.slice a.h c.heads.length a.ch), .v (.slice a.b c.books.length a.cb)], 28, 7⟩)], 2⟩) (fun q => more.length - q.1) (0, es, clock, G)
    ⟨Nat.zero_le _, hs, hG, m, hM, by rw [List.take_zero, List.map_nil, List.append_nil]; exact hL⟩ (VS.keepN [1, 2, 5, 36, 37, 38] rfl rfl) ?_
  rintro ⟨k, es, clock, G⟩ ⟨hk, hs, hG, m, hM, hL⟩
  dsimp only at hk hs hG hM hL ⊢
  by_cases hlt : k < more.length
  · have htk : more.take (k + 1) = more.take k ++ [more[k]] := List.take_succ_eq_append_getElem hlt
    have hf0 := frow_sub hs hfm
    have hgx : (more.take (k + 1)) = (more.take k) ++ [more[k]] := htk
    have hc := frow_get hf0 (j := k) (by rw [List.length_map]; exact hlt)
    rw [List.getElem_map] at hc
    generalize more[k] = x at hc hgx
    (refine run ?_; repeat intro b)
    refine s_if true (by rw [← decide_eq_true (p := ((k : Nat) : Int) < ((more.length : Nat) : Int)) (by omega)]; rfl) (fun _ => ?_) (fun h => by cases h)
    (refine run ?_; repeat intro b)
    refine s_pureO rfl rfl rfl ⟨by omega, by omega, frow_some hf0 (j := k) (by rw [List.length_map]; omega)⟩ ?_
    refine s_load (S x) rfl rfl rfl rfl (by rw [Int.toNat_natCast, Nat.mul_one]; exact hc) ?_
    (refine run ?_; repeat intro b)
    refine s_mapUpdate (id := 1) m x und_mapb und_keyb rfl rfl rfl rfl (mark_at b0) (Nat.le_refl _) hG hM (fun es2 clock2 hM2 => ?_)
    (refine run ?_; repeat intro b)
    rw [wrap_succ (by omega)]
    exact s_loopPc (k + 1, es2, clock2, G.plus b0 (.map es2 clock2)) [] [1, 2, 5, 36, 37, 38] ⟨hlt, fun j o hj => by show (G.plus b0 _) j = some o; rw [plus_other (by rintro rfl; rw [hb0] at hj; cases hj)]; exact hs j o hj, plus_self .., _, hM2, by
      have := hL.step x (.bool true)
      rw [hgx, List.map_id, ← List.append_assoc]; rw [List.map_id] at this; exact this⟩ (by simp only; omega) rfl rfl rfl rfl ⟨⟨(show 1 < 2 by decide), fun e he => vals_lt [_] e he⟩, ⟨(show 0 < 2 by decide), fun e he => vals_lt [_, _, _, _, _, _, _] e he⟩, trivial⟩ rfl
  have hge : k = more.length := by omega
  subst hge
  rw [List.take_length] at hL
  (refine run ?_; repeat intro b)
  refine s_if false (by rw [← decide_eq_false (p := ((more.length : Nat) : Int) < ((more.length : Nat) : Int)) (by omega)]; rfl) (fun h => by cases h) (fun _ => ?_)
  (refine run ?_; repeat intro b)
  rw [List.map_id] at hL
  have hL2 : ∀ s, (m s).isSome = true ↔ s ∈ LL := fun s => by rw [hnames]; exact hL s
  have hsz : es.size = (ordN LL).length := keys_len hM hL2
  have hle := ordN_len LL
  rw [← hnames] at hbig ⊢
  rw [← hsz]
  refine s_callF rfl rfl rfl bd113 rfl (keys_ok b0 G) ?_
  rintro _ G1 hG1 ⟨b5, rfl, hb5⟩
  (refine run ?_; repeat intro b)
  refine s_callF rfl rfl rfl bd112 rfl (collect_ok (hG1 _ _ hG) hM hb5 (by omega) (fun s v h => hbig s ((hL2 s).1 (by rw [h]; rfl)))) ?_
  rintro _ G2 hG2 ⟨p6, c6, rfl⟩
  (refine run ?_; repeat intro b)
  rfl
end Go.Proofs.YthkkgphjjmhglaaGreatDoor
