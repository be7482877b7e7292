/-
tallyrollref.Levels: the marks of a book's prefixes, in a map: the walk.
-/
import Derived.Test.YthkkgphjjmhglaaGreatDoorLevMath
import Derived.Test.YthkkgphjjmhglaaGreatDoorSetProofSay
import Derived.Test.YthkkgphjjmhglaaGreatDoorPath
namespace Go.Proofs.YthkkgphjjmhglaaGreatDoor
set_option linter.unusedVariables false
set_option linter.unusedSimpArgs false
open Go.TR
theorem pcell_plus {F : Hp} {b : Nat} {o : Obj} {p : Option Addr} {v : Value} (h : Pcell F p = some v) (hb : ∀ cur e r, F b ≠ some (.cells cur e r)) : Pcell (F.plus b o) p = some v := by
  cases p with
  | none => cases h
  | some a =>
    simp only [Pcell, Option.bind_some] at h ⊢
    unfold Fcell at h ⊢
    have hne : a.block ≠ b := by
      rintro rfl
      cases hF : F a.block with
      | none => rw [hF] at h; cases h
      | some x =>
        cases x with
        | cells cur e r => exact hb _ _ _ hF
        | _ => rw [hF] at h; cases h
    show (match (if a.block = b then some o else F a.block) with | some (.cells c _ _) => if a.spot.isSome then none else c[a.off]? | _ => none) = some v
    rw [if_neg hne]
    exact h
theorem plus_self (F : Hp) (b : Nat) (o : Obj) : F.plus b o b = some o := if_pos rfl
theorem plus_other {F : Hp} {b k : Nat} {o : Obj} (h : k ≠ b) : F.plus b o k = F k := if_neg h
theorem plus_sub {F : Hp} {b : Nat} {o : Obj} (h : F b = none) : F.sub (F.plus b o) := fun k x hk => by
  rw [plus_other (by rintro rfl; rw [h] at hk; cases hk)]
  exact hk
theorem und_map : Tryz.prog.underlying 120 = some (.map 9 29) := by kernel_rfl
theorem und_mapl : Tryz.prog.underlying 188 = some (.map 9 32) := by kernel_rfl
theorem und_key : Tryz.prog.underlying 9 = some .string := by kernel_rfl
theorem zero_u64 (w : World) : (zeroValue 29).run Tryz.prog w = .ok (mu 0) w := by
  have h : Tryz.prog.info? 29 = some Tryz.t29 := by kernel_rfl
  simp [zeroValue, typeInfo, h, Tryz.t29]
theorem zero_ents (w : World) : (zeroValue 32).run Tryz.prog w = .ok (.slice none 0 0) w := by
  have h : Tryz.prog.info? 32 = some Tryz.t32 := by kernel_rfl
  simp [zeroValue, typeInfo, h, Tryz.t32]
/-- The two maps, the marks' boxes and the groups, in the frozen part. -/
structure LvB (l : List Entry) (b0 b1 b7 b8 : Nat) (es : Array MapEntry) (clock : Nat) (m : List UInt8 → Option Value) (es1 : Array MapEntry) (c1 : Nat) (f : List UInt8 → Bool) (G : Hp) : Prop where
  g0 : G b0 = some (.map es clock)
  g1 : G b1 = some (.map es1 c1)
  p7 : Pcell G (some ⟨b7, 0, none⟩) = some (mu noneM)
  p8 : Pcell G (some ⟨b8, 0, none⟩) = some (.map (some b1))
  gr : LvAt 70 G b0 l m
  mp : MapIs es1 c1 (lvlM l f)
theorem LvB.plus {l : List Entry} {b0 b1 b7 b8 : Nat} {es : Array MapEntry} {clock : Nat} {m : List UInt8 → Option Value} {es1 : Array MapEntry} {c1 : Nat} {f : List UInt8 → Bool} {G : Hp} (h : LvB l b0 b1 b7 b8 es clock m es1 c1 f G) {k : Nat} {o : Obj} (h0 : k ≠ b0) (h1 : k ≠ b1) (hk : ∀ cur e r, G k ≠ some (.cells cur e r)) : LvB l b0 b1 b7 b8 es clock m es1 c1 f (G.plus k o) :=
  ⟨by rw [plus_other (Ne.symm h0)]; exact h.g0, by rw [plus_other (Ne.symm h1)]; exact h.g1, pcell_plus h.p7 hk, pcell_plus h.p8 hk, h.gr.keep fun b cur _ hb => by rw [plus_other (by rintro rfl; exact hk _ _ _ hb)]; exact hb, h.mp⟩
theorem LvB.upd {l : List Entry} {b0 b1 b7 b8 : Nat} {es : Array MapEntry} {clock : Nat} {m : List UInt8 → Option Value} {es1 : Array MapEntry} {c1 : Nat} {f : List UInt8 → Bool} {G : Hp} (h : LvB l b0 b1 b7 b8 es clock m es1 c1 f G) (h01 : b0 < b1) {es2 : Array MapEntry} {c2 : Nat} {f2 : List UInt8 → Bool} (hM : MapIs es2 c2 (lvlM l f2)) : LvB l b0 b1 b7 b8 es clock m es2 c2 f2 (G.plus b1 (.map es2 c2)) := by
  have hk : ∀ cur e r, G b1 ≠ some (.cells cur e r) := fun cur e r hb => by rw [h.g1] at hb; cases hb
  exact ⟨by rw [plus_other (by omega)]; exact h.g0, plus_self .., pcell_plus h.p7 hk, pcell_plus h.p8 hk, h.gr.keep fun b cur _ hb => by rw [plus_other (by rintro rfl; exact hk _ _ _ hb)]; exact hb, hM⟩
/-- The iterator over the groups. -/
structure LvI (l : List Entry) (b0 : Nat) (es : Array MapEntry) (clock it : Nat) (dn : List (List UInt8)) (oi : Obj) (G : Hp) : Prop where
  git : G it = some oi
  its : ItIs oi b0 es clock dn
  nd : dn.Nodup
  ks : ∀ s ∈ dn, grp l s ≠ []
theorem LvI.cells {l : List Entry} {b0 : Nat} {es : Array MapEntry} {clock it : Nat} {dn : List (List UInt8)} {oi : Obj} {G : Hp} (h : LvI l b0 es clock it dn oi G) : ∀ cur e r, G it ≠ some (.cells cur e r) := fun cur e r hb => by
  obtain ⟨_, _, _, rfl, _⟩ := h.its
  rw [h.git] at hb
  cases hb
theorem LvI.adv {l : List Entry} {b0 : Nat} {es : Array MapEntry} {clock it : Nat} {dn : List (List UInt8)} {oi o' : Obj} {G : Hp} (h : LvI l b0 es clock it dn oi G) {s : List UInt8} (hs : s ∉ dn) (hk : grp l s ≠ []) (hI : ItIs o' b0 es clock (s :: dn)) : LvI l b0 es clock it (s :: dn) o' (G.plus it o') :=
  ⟨plus_self .., hI, List.nodup_cons.2 ⟨hs, h.nd⟩, fun t ht => by
    rcases List.mem_cons.1 ht with rfl | ht
    · exact hk
    · exact h.ks t ht⟩
theorem LvI.other {l : List Entry} {b0 : Nat} {es : Array MapEntry} {clock it : Nat} {dn : List (List UInt8)} {oi : Obj} {G : Hp} (h : LvI l b0 es clock it dn oi G) {k : Nat} {o : Obj} (hk : it ≠ k) : LvI l b0 es clock it dn oi (G.plus k o) := ⟨by rw [plus_other hk]; exact h.git, h.its, h.nd, h.ks⟩
theorem LvI.new {l : List Entry} {b0 : Nat} {es : Array MapEntry} {clock it : Nat} {oi : Obj} {G : Hp} (hI : ItIs oi b0 es clock []) : LvI l b0 es clock it [] oi (G.plus it oi) := ⟨plus_self .., hI, List.nodup_nil, fun _ h => by cases h⟩
theorem lvlN_lt (l : List Entry) (s : List UInt8) : lvlN l s < 18446744073709551616 := by
  have h : ∀ n s, lvl l n s < MM := fun n s => by cases n <;> exact markN_lt _
  have := h (16 - s.length) s
  unfold lvlN
  have : MM = 2305843009213693951 := rfl
  omega
/-- Which prefixes are marked, before the steps at depth d - 1. -/
def goF (l : List Entry) : Nat → List UInt8 → Bool
  | 0 => begun l
  | d + 1 => deepF l d []
theorem goF_all {l : List Entry} {d : Nat} {dn : List (List UInt8)} (h : ∀ x ∈ l, pathN x.name ∈ dn) : deepF l d dn = goF l d := by
  funext s
  cases d with
  | zero => exact deepF_last h s
  | succ d => exact deepF_next h s
theorem keys_more {l : List Entry} {s : List UInt8} {dn : List (List UInt8)} (hn : dn.Nodup) (hk : ∀ t ∈ dn, grp l t ≠ []) (hs : s ∉ dn) (hg : grp l s ≠ []) : l.length - (s :: dn).length < l.length - dn.length := by
  have := keys_le (List.nodup_cons.2 ⟨hs, hn⟩) (fun t ht => by
    rcases List.mem_cons.1 ht with rfl | ht
    · exact hg
    · exact hk t ht)
  rw [List.length_cons] at this ⊢
  omega
theorem leafN_big {l : List Entry} (h : l.length ≤ 24) : (leafN l).length ≤ 4611686018427387904 := by
  unfold leafN
  split
  · decide
  · have := leafN_len l
    rw [List.length_cons]
    omega
theorem refmark_none (F : Hp) : Plain Tryz.prog F 22 [S [0]] (u64 (noneM : Nat)) := refmark_ok [0] (by decide) F
attribute [local irreducible] vc vcOps seqK blockK loopK retK retG retI loopV Plain CallOK CallIn bodied VS vcAny dropG backK brK loopPK IntKind.wrap
theorem lvlM_yes {l : List Entry} {f : List UInt8 → Bool} {q : List UInt8} (h : f q = true) : lvlM l f q = some (mu (lvlN l q)) := if_pos h
theorem lvlM_no {l : List Entry} {f : List UInt8 → Bool} {q : List UInt8} (h : f q = false) : lvlM l f q = none := if_neg (by rw [h]; decide)
theorem levels1_ok (l : List Entry) (f : List UInt8 → Bool) (q : List UInt8) (hq : f q = begun l q) {F : Hp} {p8 p7 : Option Addr} {b0 : Nat} {es : Array MapEntry} {clock : Nat} (h8 : Pcell F p8 = some (.map (some b0))) (h7 : Pcell F p7 = some (mu noneM)) (hF : F b0 = some (.map es clock)) (hM : MapIs es clock (lvlM l f)) :
    Plain Tryz.prog F 108 [S q, .pointer p8, .pointer p7] (mu (lvlN l q)) := by
  refine plain_vc (N := 16) (rv := [.tmp 4]) tbok mixed Tryz.func108 rfl rfl rfl rfl rfl ?_
  (refine run ?_; repeat intro b)
  refine s_load (.map (some b0)) rfl rfl rfl rfl h8 ?_
  (refine run ?_; repeat intro b)
  refine s_lookup (lvlM l f) q und_map und_key rfl rfl zero_u64 rfl hF hM ?_
  rw [if_pos rfl]
  cases hb : f q with
  | true =>
    rw [lvlM_yes hb]
    (refine run ?_; repeat intro b)
    rfl
  | false =>
    rw [lvlM_no hb, lvlN_none (by rw [← hq]; exact hb)]
    (refine run ?_; repeat intro b)
    refine s_load (mu noneM) rfl rfl rfl rfl h7 ?_
    (refine run ?_; repeat intro b)
    rfl
attribute [local irreducible] pathN markN leafN nodeN lvlN lvlM begun grp updM noneM Hp.plus
set_option maxRecDepth 100000
set_option maxHeartbeats 4000000
theorem levels_ok (l : List Entry) (hl : l.length ≤ 24) (hw : ∀ x ∈ l, x.wf) {p : Option Addr} {c : Nat} {F : Hp} (hf : Frow F p (l.flatMap Entry.row)) :
    CallF Tryz.prog F 55 [.slice p l.length c] (fun x F' => ∃ b es clock, x = .map (some b) ∧ F' b = some (.map es clock) ∧ MapIs es clock (lvlM l (begun l))) := by
  refine call_vc (N := 85) (rv := [.tmp 2]) tbok mixed Tryz.func55 rfl rfl rfl rfl rfl ?_
  (refine run ?_; repeat intro b)
  refine s_makeMap rfl (fun b0 hb0 => ?_)
  (refine run ?_; repeat intro b)
  refine s_loopP (fun q : Nat × Array MapEntry × Nat × Hp => q.1 ≤ l.length ∧ F.sub q.2.2.2 ∧ q.2.2.2 b0 = some (.map q.2.1 q.2.2.1) ∧ ∃ m, MapIs q.2.1 q.2.2.1 m ∧ LvAt 70 q.2.2.2 b0 (l.take q.1) m ∧ ∀ s b n c, m s = some (.slice (some ⟨b, 0, none⟩) n c) → F b = none)
    (fun q => ⟨[(3, .v (.map (some b0))), (18, .v (.slice p l.length c)), (19, .v (i64 (l.length : Nat))), (20, .v (i64 (q.1 : Nat)))], q.2.2.2, [(0, Go.TR.mark b0)], 1⟩) (fun q => l.length - q.1) (0, #[], 0, F.plus b0 (.map #[] 0))
    ⟨Nat.zero_le _, plus_sub hb0, plus_self .., _, MapIs.empty, by rw [List.take_zero]; exact LvAt.empty _ _ _, fun _ _ _ _ h => by cases h⟩ (VS.keepN [3, 18, 19, 20] rfl rfl) ?_
  rintro ⟨k, es, clock, G⟩ ⟨hk, hs, hG, m, hM, hL, hY⟩
  dsimp only at hk hs hG hM hL hY ⊢
  by_cases hlt : k < l.length
  · have hf0 := frow_sub hs hf
    obtain ⟨o1, o2⟩ := frow_agg entry_row (by decide) hf0 k hlt
    have ht : l.take (k + 1) = l.take k ++ [l[k]] := List.take_succ_eq_append_getElem hlt
    have hxw := hw l[k] (List.getElem_mem hlt)
    have hgl := grp_len (l.take k) (pathN l[k].name)
    rw [List.length_take] at hgl
    generalize l[k] = x at o2 ht hxw hgl
    (refine run ?_; repeat intro b)
    refine s_if true (by rw [← decide_eq_true (p := ((k : Nat) : Int) < ((l.length : Nat) : Int)) (by omega)]; rfl) (fun _ => ?_) (fun h => by cases h)
    (refine run ?_; repeat intro b)
    refine s_pureO rfl rfl rfl ⟨by omega, by omega, frow_some hf0 (j := k * 2) (by rw [flat_len entry_row]; omega)⟩ ?_
    refine s_loadA x.row rfl rfl rfl rfl rfl (by rw [Int.toNat_natCast]; exact o1) (by rw [Int.toNat_natCast]; exact o2) ?_
    (refine run ?_; repeat intro b)
    refine s_plain _ rfl rfl rfl bd54 rfl (refpath_ok x.name hxw.1 G) ?_
    (refine run ?_; repeat intro b)
    obtain ⟨p1, c1, e1, e2, e3⟩ := hL.find (pathN x.name)
    refine s_lookup m (pathN x.name) und_mapl und_key rfl rfl zero_ents rfl hG hM ?_
    rw [if_neg Bool.false_ne_true, e1]
    (refine run ?_; repeat intro b)
    have hg24 : (grp (l.take k) (pathN x.name)).length ≤ 24 := by omega
    refine s_appM (vs := x.row) (m := 1) (id := 0) tbok rfl rfl rfl rfl rfl rfl (src_row rfl rfl) (one_v _ fun y hy => entry_one [x] y (by simpa using hy)) (by decide) rfl (by show _ * 32 ≤ _; omega) rfl (mark_at b0) hG e2 (fun b hb => Nat.le_of_lt (e3 b hb).1) (fun b2 c2 o2' hb2 hs2 => ?_)
    have h02 : b0 < b2 := by
      rcases hb2 with hb2 | hb2
      · exact (e3 b2 hb2).1
      · exact hb2.2
    have hF2 : F b2 = none := by
      rcases hb2 with hb2 | hb2
      · obtain ⟨_, n', c', h⟩ := e3 b2 hb2
        exact hY _ _ _ _ h
      · cases hF : F b2 with
        | none => rfl
        | some o =>
          have := hs _ _ hF
          rw [hb2.1] at this
          cases this
    refine s_mapUpdate (id := 0) m (pathN x.name) und_mapl und_key rfl rfl rfl rfl (mark_at b0) (Nat.le_refl _) (by rw [plus_other (by omega)]; exact hG) hM (fun es2 clock2 hM2 => ?_)
    (refine run ?_; repeat intro b)
    rw [wrap_succ (by omega)]
    exact s_loopPq (k + 1, es2, clock2, (G.plus b2 o2').plus b0 (.map es2 clock2)) 1 [(0, 0)] [3, 18, 19, 20] [(0, Go.TR.mark b0)]
      ⟨hlt, fun j o hj => by show ((G.plus b2 o2').plus b0 _) j = some o; rw [plus_other (by rintro rfl; rw [hb0] at hj; cases hj), plus_other (by rintro rfl; rw [hF2] at hj; cases hj)]; exact hs j o hj, plus_self .., _, hM2, by rw [ht]; exact hL.step x e3 hb2 hs2, fun s b n c hm => by
        unfold updM at hm
        split at hm
        · cases hm; exact hF2
        · exact hY _ _ _ _ hm⟩ (by simp only; omega) (Nat.min_le_left _ _)
      ⟨rfl, ⟨_, rfl, rfl, rfl, rfl, .inr rfl⟩, trivial⟩ rfl rfl rfl rfl rfl rfl rfl
  · have hge : k = l.length := by omega
    subst hge
    rw [List.take_length] at hL
    (refine run ?_; repeat intro b)
    refine s_if false (by rw [← decide_eq_false (p := ((l.length : Nat) : Int) < ((l.length : Nat) : Int)) (by omega)]; rfl) (fun h => by cases h) (fun _ => ?_)
    (refine run ?_; repeat intro b)
    refine s_plain _ rfl rfl rfl bd22 rfl (refmark_none G) ?_
    (refine run ?_; repeat intro b)
    revert b; intro b7
    refine s_shift (VS.freeze 1 [3, 7] rfl rfl rfl rfl fun G1 hs1 hf1 => VS.id ?_)
    refine s_makeMap2 b0 rfl (hs1 _ _ hG) (fun b1 hb1 h01 => ?_)
    (refine run ?_; repeat intro b)
    revert b; intro b8
    refine s_shift (VS.freeze 2 [3, 7, 8, 38] rfl rfl rfl rfl fun G2 hs2 hf2 => VS.id ?_)
    have hB : LvB l b0 b1 b7 b8 es clock m #[] 0 (doneF []) G2 := by
      have g1 : (G1.plus b1 (.map #[] 0)) b1 = some (.map #[] 0) := plus_self ..
      refine ⟨hs2 _ _ (by rw [plus_other (by omega)]; exact hs1 _ _ hG), hs2 _ _ g1, ?_, hf2 0 _ rfl, hL.keep fun b cur hb hc => hs2 _ _ ?_, by rw [lvlM_empty]; exact MapIs.empty⟩
      · have h7 := pcell_plus (o := .map #[] 0) (hf1 0 _ rfl) (b := b1) (fun cur e r h => by rw [hb1] at h; cases h)
        have hc : Frow (G1.plus b1 (.map #[] 0)) (some ⟨b7, 0, none⟩) [mu noneM] := fun j u hj => by
          match j, hj with
          | 0, hj => cases hj; exact h7
          | j + 1, hj => simp at hj
        exact frow_sub hs2 hc 0 _ rfl
      · have h1 := hs1 _ _ hc
        rw [plus_other (by rintro rfl; rw [hb1] at h1; cases h1)]
        exact h1
    clear hs1 hf1 hs2 hf2 hb1 hs hG hL hY hf hb0
    generalize hNX : (1 + 1 + 1 : Nat) = NX
    refine s_range (b0 := b0) und_mapl rfl rfl hB.g0 hB.g0 hM (fun it oi hit h0it hI => ?_)
    have hit1 : it ≠ b1 := by rintro rfl; rw [hB.g1] at hit; cases hit
    have hB2 := hB.plus (k := it) (o := oi) (by omega) hit1 (fun cur e r h => by rw [hit] at h; cases h)
    (refine run ?_; repeat intro b)
    refine s_loopP (fun q : List (List UInt8) × Obj × Array MapEntry × Nat × Hp => LvB l b0 b1 b7 b8 es clock m q.2.2.1 q.2.2.2.1 (doneF q.1) q.2.2.2.2 ∧ LvI l b0 es clock it q.1 q.2.1 q.2.2.2.2)
      (fun q => ⟨[(3, .v (.map (some b0))), (7, .v (.pointer (some ⟨b7, 0, none⟩))), (8, .v (.pointer (some ⟨b8, 0, none⟩))), (39, .v (.pointer (some ⟨it, 0, none⟩)))], q.2.2.2.2, [(0, Go.TR.mark b0)], NX⟩) (fun q => l.length - q.1.length) ([], oi, #[], 0, G2.plus it oi) ⟨hB2, LvI.new hI⟩ (VS.keepN [3, 7, 8, 39] rfl rfl) ?_
    clear hB2 hB hI
    rintro ⟨dn, oi1, es1, c1, G⟩ ⟨hB, hI⟩
    dsimp only at hB hI ⊢
    (refine run ?_; repeat intro b)
    refine s_next (id := 0) m rfl rfl hB.g0 hI.git hI.its hM rfl (mark_at b0) (Nat.le_of_lt h0it) (fun hall => ?_) (fun s v o' hv hs hI' => ?_)
    · have hX : lvlM l (doneF dn) = lvlM l (deepF l 15 []) := lvlM_leaves (hB.gr.all hall) hI.ks
      (refine run ?_; repeat intro b)
      have hB3 : LvB l b0 b1 b7 b8 es clock m es1 c1 (goF l 16) G := by
        obtain ⟨g0, g1, p7, p8, gr, mp⟩ := hB
        rw [hX] at mp
        exact ⟨g0, g1, p7, p8, gr, mp⟩
      have hkeys := hB.gr.all hall
      clear hX hB hI hall hit h0it hit1
      refine s_loopP (fun q : Nat × Array MapEntry × Nat × Hp => q.1 ≤ 16 ∧ LvB l b0 b1 b7 b8 es clock m q.2.1 q.2.2.1 (goF l q.1) q.2.2.2)
        (fun q => ⟨[(3, .v (.map (some b0))), (8, .v (.pointer (some ⟨b8, 0, none⟩))), (11, .v (.func (.func 108) #[] #[.pointer (some ⟨b8, 0, none⟩), .pointer (some ⟨b7, 0, none⟩)])), (12, .v (.int .i64 ((q.1 : Int) - 1)))], q.2.2.2, [(0, Go.TR.mark b0)], NX⟩) (fun q => q.1) (16, es1, c1, G) ⟨Nat.le_refl _, hB3⟩ (VS.keepN [3, 8, 11, 12] rfl rfl) ?_
      clear hB3
      rintro ⟨d1, es1, c1, G⟩ ⟨hd16, hB⟩
      dsimp only at hd16 hB ⊢
      cases d1 with
      | zero =>
        (refine run ?_; repeat intro b)
        refine s_load (.map (some b1)) rfl rfl rfl rfl hB.p8 ?_
        (refine run ?_; repeat intro b)
        exact s_retG (VS.dropR [0] rfl (VS.id ⟨_, rfl, rfl, b1, es1, c1, rfl, hB.g1, hB.mp⟩))
      | succ d =>
        have ed : ((d + 1 : Nat) : Int) - 1 = (d : Int) := by omega
        rw [ed]
        (refine run ?_; repeat intro b)
        refine s_range (b0 := b0) und_mapl rfl rfl hB.g0 hB.g0 hM (fun it oi hit h0it hI => ?_)
        have hit1 : it ≠ b1 := by rintro rfl; rw [hB.g1] at hit; cases hit
        have hB2 := hB.plus (k := it) (o := oi) (by omega) hit1 (fun cur e r h => by rw [hit] at h; cases h)
        (refine run ?_; repeat intro b)
        refine s_loopP (fun q : List (List UInt8) × Obj × Array MapEntry × Nat × Hp => LvB l b0 b1 b7 b8 es clock m q.2.2.1 q.2.2.2.1 (deepF l d q.1) q.2.2.2.2 ∧ LvI l b0 es clock it q.1 q.2.1 q.2.2.2.2)
          (fun q => ⟨[(3, .v (.map (some b0))), (8, .v (.pointer (some ⟨b8, 0, none⟩))), (11, .v (.func (.func 108) #[] #[.pointer (some ⟨b8, 0, none⟩), .pointer (some ⟨b7, 0, none⟩)])), (12, .v (i64 (d : Nat))), (56, .v (.pointer (some ⟨it, 0, none⟩)))], q.2.2.2.2, [(0, Go.TR.mark b0)], NX⟩) (fun q => l.length - q.1.length) ([], oi, es1, c1, G.plus it oi) ⟨hB2, LvI.new hI⟩ (VS.keepN [3, 8, 11, 12, 56] rfl rfl) ?_
        clear hB2 hB hI
        rintro ⟨dn, oi1, es1, c1, G⟩ ⟨hB, hI⟩
        dsimp only at hB hI ⊢
        (refine run ?_; repeat intro b)
        refine s_next (id := 0) m rfl rfl hB.g0 hI.git hI.its hM rfl (mark_at b0) (Nat.le_of_lt h0it) (fun hall => ?_) (fun s v o' hv hs hI' => ?_)
        · have hX : deepF l d dn = goF l d := goF_all (hB.gr.all hall)
          rw [hX] at hB
          (refine run ?_; repeat intro b)
          rw [wrap_i64 (by omega) (by omega)]
          exact s_loopPn (d, es1, c1, G) ⟨by omega, hB⟩ (Nat.lt_succ_self d) (VS.keepN [3, 8, 11, 12] rfl rfl)
        · have hg := hB.gr.key hv
          have hB' := hB.plus (k := it) (o := o') (by omega) hit1 hI.cells
          have hI2 := hI.adv hs hg hI'
          have hs16 : s.length = 16 := by
            obtain ⟨x, _, rfl⟩ := grp_ne hg
            exact pathN_len _
          have hq16 : (s.take d).length = d := by rw [List.length_take]; omega
          (refine run ?_; repeat intro b)
          refine s_entry m rfl rfl hB'.g0 hI2.git hI2.its hM hv ?_
          (refine run ?_; repeat intro b)
          refine s_pureO rfl rfl rfl ⟨by omega, by rw [bl_S]; omega⟩ ?_
          rw [Int.toNat_natCast, bl_S]
          (refine run ?_; repeat intro b)
          refine s_load (.map (some b1)) rfl rfl rfl rfl hB'.p8 ?_
          (refine run ?_; repeat intro b)
          refine s_lookup (lvlM l (deepF l d dn)) (s.take d) und_map und_key rfl rfl zero_u64 rfl hB'.g1 hB'.mp ?_
          rw [if_pos rfl]
          cases hb : deepF l d dn (s.take d) with
          | true =>
            have hY : lvlM l (deepF l d dn) = lvlM l (deepF l d (s :: dn)) := lvlM_same hg (by omega) (by rw [lvlM_yes hb]; rfl)
            have hB3 : LvB l b0 b1 b7 b8 es clock m es1 c1 (deepF l d (s :: dn)) (G.plus it o') := by
              obtain ⟨g0, g1, p7, p8, gr, mp⟩ := hB'
              rw [hY] at mp
              exact ⟨g0, g1, p7, p8, gr, mp⟩
            rw [lvlM_yes hb]
            (refine run ?_; repeat intro b)
            exact s_loopPn (s :: dn, o', es1, c1, G.plus it o') ⟨hB3, hI2⟩ (keys_more hI.nd hI.ks hs hg) (VS.keepN [3, 8, 11, 12, 56] rfl rfl)
          | false =>
            rw [lvlM_no hb]
            have h0 := levels1_ok l (deepF l d dn) (s.take d ++ [48]) (deepF_under (by rw [List.length_append, hq16]; simp)) hB'.p8 hB'.p7 hB'.g1 hB'.mp
            have h1 := levels1_ok l (deepF l d dn) (s.take d ++ [49]) (deepF_under (by rw [List.length_append, hq16]; simp)) hB'.p8 hB'.p7 hB'.g1 hB'.mp
            (refine run ?_; repeat intro b)
            refine s_regiont 12 (by kernel_rfl) rfl rfl ?_
            (refine run ?_; repeat intro b)
            refine s_load (.map (some b1)) rfl rfl rfl rfl hB'.p8 ?_
            (refine run ?_; repeat intro b)
            refine s_pureO rfl rfl rfl (by show (s.take d).length + 1 ≤ 9223372036854775807; omega) ?_
            refine s_plain _ rfl rfl rfl bd108 rfl h0 ?_
            (refine run ?_; repeat intro b)
            refine s_pureO rfl rfl rfl (by show (s.take d).length + 1 ≤ 9223372036854775807; omega) ?_
            refine s_plain _ rfl rfl rfl bd108 rfl h1 ?_
            refine s_plain _ rfl rfl rfl bd109 rfl (nodesaid_ok _ _ (lvlN_lt _ _) (lvlN_lt _ _) _) ?_
            refine s_plain _ rfl rfl rfl bd22 rfl (refmark_ok _ (by have := nodeN_len (lvlN l (s.take d ++ [48])) (lvlN l (s.take d ++ [49])); omega) _) ?_
            rw [← lvlN_node (l := l) (s := s.take d) (by omega)]
            (refine run ?_; repeat intro b)
            refine s_mapUpdate (id := 0) (lvlM l (deepF l d dn)) (s.take d) und_map und_key rfl rfl rfl rfl (mark_at b0) (Nat.le_of_lt h01) hB'.g1 hB'.mp (fun es2 c2 hM2 => ?_)
            rw [lvlM_more hg (by omega)] at hM2
            (refine run ?_; repeat intro b)
            exact s_loopPn (s :: dn, o', es2, c2, (G.plus it o').plus b1 (.map es2 c2)) ⟨hB'.upd h01 hM2, hI2.other hit1⟩ (keys_more hI.nd hI.ks hs hg) (VS.keepN [3, 8, 11, 12, 56] rfl rfl)
    · have hg := hB.gr.key hv
      obtain ⟨b, n, c, e1, e2, e3⟩ := hB.gr.any s hg
      obtain rfl : v = .slice (some ⟨b, 0, none⟩) n c := Option.some.inj (hv.symm.trans e1)
      have hB' := hB.plus (k := it) (o := o') (by omega) hit1 hI.cells
      have hI2 := hI.adv hs hg hI'
      have hlen : n = (grp l s).length := by
        have := e2.1
        rw [flat_len entry_row] at this
        omega
      subst hlen
      have hgl := grp_len l s
      obtain ⟨b', n', c', e1', e2', _⟩ := hB'.gr.any s hg
      rw [e1] at e1'
      cases e1'
      (refine run ?_; repeat intro b)
      refine s_entry m rfl rfl hB'.g0 hI2.git hI2.its hM e1 ?_
      (refine run ?_; repeat intro b)
      refine s_regiont 5 (by kernel_rfl) rfl rfl ?_
      (refine run ?_; repeat intro b)
      refine s_load (.map (some b1)) rfl rfl rfl rfl hB'.p8 ?_
      (refine run ?_; repeat intro b)
      refine s_plain _ rfl rfl rfl bd107 rfl (leafsaid_ok (grp l s) (by omega) (fun x hx => hw x (grp_sub hx)) e2'.frow) ?_
      refine s_plain _ rfl rfl rfl bd22 rfl (refmark_ok (leafN (grp l s)) (leafN_big (by omega)) _) ?_
      (refine run ?_; repeat intro b)
      refine s_mapUpdate (id := 0) (lvlM l (doneF dn)) s und_map und_key rfl rfl rfl rfl (mark_at b0) (Nat.le_of_lt h01) hB'.g1 hB'.mp (fun es2 c2 hM2 => ?_)
      rw [lvlM_leaf hg] at hM2
      (refine run ?_; repeat intro b)
      exact s_loopPn (s :: dn, o', es2, c2, (G.plus it o').plus b1 (.map es2 c2)) ⟨hB'.upd h01 hM2, hI2.other hit1⟩ (keys_more hI.nd hI.ks hs hg) (VS.keepN [3, 7, 8, 39] rfl rfl)
end Go.Proofs.YthkkgphjjmhglaaGreatDoor
