/-
The reference's OwnClerk: the walk.
-/
import Derived.Test.YthkkgphjjmhglaaGreatDoorSetClerk3
import Derived.Test.YthkkgphjjmhglaaGreatDoorSetFwY
import Derived.Test.YthkkgphjjmhglaaGreatDoorSetProofTell
namespace Go.Proofs.YthkkgphjjmhglaaGreatDoor
set_option linter.unusedVariables false
set_option linter.unusedSimpArgs false
open Go.TR
theorem dropR_sub {ids : List Nat} {rs : RL} : ∀ k r, lkR (Go.TR.dropR ids rs) k = some r → lkR rs k = some r := fun k r hk => by
  rw [lkR_drop'] at hk
  split at hk
  · cases hk
  · exact hk
/-- Rows that a call hands over may be left out. -/
theorem CallOK.dropIds {P : Program} {F : Hp} {f : FuncId} {args : List Value} {Q : Value → Hp → RL → Prop} (ids : List Nat) (h : CallOK P F f args fun x F' new => Q x F' (Go.TR.dropR ids new)) : CallOK P F f args Q := fun w hw => by
  refine (h w hw).mono fun e w' hh => ?_
  obtain ⟨x, F', new, h1, h2, h3, h4, h5, h6, h7, h8⟩ := hh
  refine ⟨x, F', Go.TR.dropR ids new, h1, h2, h3, h4, h5, ⟨fun id r hr => ?_, fun i j r s b hi hj => h6.apart i j r s b (dropR_sub _ _ hi) (dropR_sub _ _ hj)⟩, fun id r b hr => h7 id r b (dropR_sub _ _ hr), h8⟩
  have g := h6.own id r (dropR_sub _ _ hr)
  cases hb : r.blk with
  | none => rw [hb] at g; exact g
  | some b =>
    rw [hb] at g
    obtain ⟨g1, g2, cur, g3, g4, g5⟩ := g
    exact ⟨g1, g2, cur, g3, g4, fun j ev x hj hx => g5 j ev x hj (val_sub dropR_sub hx)⟩
def Young (b0 : Nat) (p : Option Addr) : Prop := ∀ b, p = some ⟨b, 0, none⟩ → b0 ≤ b
theorem SlAt.sub' {F F' : Hp} {e : TypeId} {size : Nat} {p : Option Addr} {n c : Nat} {cs : List Value} (h : F.sub F') (k : SlAt F e size p n c cs) : SlAt F' e size p n c cs := by
  obtain ⟨h1, h2, h3⟩ := k
  refine ⟨h1, h2, ?_⟩
  rcases h3 with h3 | ⟨b, cur, e1, e2, e3⟩
  · exact .inl h3
  · exact .inr ⟨b, cur, e1, h _ _ e2, e3⟩
def BkS (F : Hp) (s : Bk) : Prop := SlAt F 70 2 s.1 s.2.1.length s.2.2 (s.2.1.flatMap Entry.row)
theorem BkS.at {F : Hp} {s : Bk} (h : BkS F s) : Bk.at F s := ⟨trivial, SlAt.frow h⟩
/-- A copy of a clerk: the asks lie young from a mark on, the heads and the books are rows of the caller's own. -/
structure Own (c : Clerk) (F : Hp) (a : CLay) (bA bh bb : Nat) (bs : List Bk) : Prop where
  w : SlAt F 55 4 a.w c.queue.wait.length a.cw (c.queue.wait.flatMap Ask.cells)
  yw : Young bA a.w
  h : a.h = some ⟨bh, 0, none⟩
  ch : c.heads.length ≤ a.ch
  b : a.b = some ⟨bb, 0, none⟩
  cb : c.books.length ≤ a.cb
  eb : bs.map (·.2.1) = c.books
  each : ∀ s ∈ bs, BkS F s
attribute [local irreducible] vc vcOps seqK blockK loopK retK retG retI loopV Plain CallOK CallIn bodied VS vcAny dropG backK brK loopPK IntKind.wrap
attribute [local irreducible] bookFault lvlN rootsF lastB lastH
set_option maxRecDepth 100000
set_option maxHeartbeats 4000000
theorem ownclerk_ok (c : Clerk) (a : CLay) (hS : Small c) (hz : 0 < c.heads.length) (hz2 : 0 < c.books.length) {F : Hp} (ha : c.at F a) : CallOK Tryz.prog F 76 [c.v a] (fun x F' new => ∃ a' bA bh bb bs, x = c.v a' ∧ Own c F' a' bA bh bb bs ∧ new = [(5, ⟨some bb, (bs.map Bk.v).map .v, 32, a'.cb * 1⟩), (4, ⟨some bh, (c.heads.flatMap Head.row).map .v, 31, a'.ch * 4⟩), (3, Go.TR.mark bA)]) := by
  obtain ⟨bs, hb, hfb, hbs⟩ := ha.b
  have hbl := bks_len hb
  have q1 := hS.wait
  have q2 := hS.heads
  have q3 := hS.books
  refine CallOK.dropIds [0, 1] (call_vc (N := 32) (rv := [.cell 2 28]) tbok mixed Tryz.func76 rfl rfl rfl rfl rfl ?_)
  (refine run ?_; repeat intro b)
  rename_i bX
  revert b; intro bY
  refine s_appV [] rfl rfl rfl rfl rfl rfl rfl (frow_nil _ _) (src_frz (flat_len ask_cells _) ha.w) (one_v _ (ask_one _)) (by show _ * 48 ≤ _; omega) (fun h => ?_) (fun hpos bw cw2 hcw2 => ?_)
  · refine s_shift (VS.mark fun b9 _ => VS.mark fun bA _ => VS.dropR [2] rfl (VS.id ?_))
    have sw : SlAt F 55 4 none c.queue.wait.length 0 (c.queue.wait.flatMap Ask.cells) := by
      rw [List.eq_nil_of_length_eq_zero h]
      exact ⟨rfl, Nat.le_refl _, .inl ⟨rfl, rfl, rfl⟩⟩
    have yw : Young bA none := fun b hb => by cases hb
    (refine run ?_; repeat intro b)
    refine s_appV [] rfl rfl rfl rfl rfl rfl rfl (frow_nil _ _) (src_frz (flat_len head_row _) (frow_sub (Hp.sub.refl F) ha.h)) (one_v _ (head_one _)) (by show _ * 32 ≤ _; omega) (fun h => by omega) (fun _ bh c5 hc5 => ?_)
    rw [Nat.zero_add c.heads.length]
    rw [Nat.zero_add c.heads.length] at hc5
    (refine run ?_; repeat intro b)
    refine s_loopP (fun q : Nat × List Bk × Hp × Option Nat × Nat => q.1 ≤ c.books.length ∧ F.sub q.2.2.1 ∧ q.2.1.map (·.2.1) = c.books.take q.1 ∧ (∀ s ∈ q.2.1, BkS q.2.2.1 s) ∧ (q.2.2.2.1 = none → q.1 = 0 ∧ q.2.2.2.2 = 0) ∧ q.1 ≤ q.2.2.2.2)
      (fun q => ⟨[(3, .row 5 0 q.1 q.2.2.2.2), (1, .loc 0 0), (2, .loc 1 0), (17, .v (.slice a.b c.books.length a.cb)), (18, .v (i64 (c.books.length : Nat))), (19, .v (i64 (q.1 : Nat)))], q.2.2.1,
        [(5, ⟨q.2.2.2.1, (q.2.1.map Bk.v).map .v, 32, q.2.2.2.2 * 1⟩), (4, ⟨some bh, (c.heads.flatMap Head.row).map .v, 31, c5 * 4⟩), (3, Go.TR.mark bA),
         (1, ⟨some bY, [.v (i64 0), .v (.slice none 0 0), .v (i64 0), .v (i64 0), .v (i64 0), .v (.slice none 0 0), .v (.slice none 0 0)], 28, 7⟩),
         (0, ⟨some bX, [.v (i64 c.queue.most), .v (.slice none c.queue.wait.length 0), .v (i64 c.batch), .v (i64 c.every), .v (i64 c.now), .row 4 0 c.heads.length c5, .v (.slice a.b c.books.length a.cb)], 28, 7⟩)], 6⟩)
      (fun q => c.books.length - q.1) (0, [], F, none, 0) ⟨Nat.zero_le _, fun _ _ h => h, rfl, (fun s hs => by cases hs), fun _ => ⟨rfl, rfl⟩, Nat.le_refl _⟩ (VS.nilrow 3 32 [1, 2, 17, 18, 19] rfl rfl (VS.id (by first | rfl | (rw [h]; rfl)))) ?_
    rintro ⟨k, ds, G, blk, cap⟩ ⟨hk, hG, hds, hda, h3, h4⟩
    dsimp only at hk hG hds hda h3 h4 ⊢
    have hdl : ds.length = k := by
      have := congrArg List.length hds
      rw [List.length_map, List.length_take] at this
      omega
    have hlk : ((ds.map Bk.v).map EV.v).length = k := by rw [List.length_map, List.length_map]; exact hdl
    have hFG : F.sub G := Hp.sub.trans (Hp.sub.refl F) hG
    by_cases hlt : k < c.books.length
    · obtain ⟨⟨ps, ls, cs⟩, k1, k2, k3⟩ := bk_get hb hlt
      have kc := pcell_sub hFG (bk_cell hfb k1)
      have hat := Bk.at_sub hFG (hbs _ k3)
      have h24 := hS.each c.books[k] (List.getElem_mem hlt)
      have htk : c.books.take (k + 1) = c.books.take k ++ [c.books[k]] := List.take_succ_eq_append_getElem hlt
      simp only at k2 hat
      rw [← k2] at h24 htk
      (refine run ?_; repeat intro b)
      refine s_if true (by rw [← decide_eq_true (p := ((k : Nat) : Int) < ((c.books.length : Nat) : Int)) (by omega)]; rfl) (fun _ => ?_) (fun h => by cases h)
      (refine run ?_; repeat intro b)
      refine s_pureO rfl rfl rfl ⟨by omega, by omega, frow_some (frow_sub hFG hfb) (j := k) (by rw [List.length_map, hbl]; omega)⟩ ?_
      refine s_load (Bk.v (ps, ls, cs)) rfl rfl rfl rfl (by rw [Int.toNat_natCast, Nat.mul_one]; exact kc) ?_
      (refine run ?_; repeat intro b)
      refine s_appV [] rfl rfl rfl rfl rfl rfl rfl (frow_nil _ _) (src_frz (flat_len entry_row _) hat.2) (one_v _ (entry_one _)) (by have h24' : ls.length ≤ 24 := h24; show (0 + ls.length) * 32 ≤ _; omega) (fun he => ?_) (fun hpos be c6 hc6 => ?_)
      · (refine run ?_; repeat intro b)
        refine s_appR rfl rfl rfl rfl rfl rfl rfl rfl (src_row rfl rfl) (fun e he => by rw [List.mem_singleton.1 he]; exact ⟨rfl, _, rfl⟩) h3 h4 rfl (by rw [hlk, Nat.mul_one]; exact Nat.le_refl _) (by show _ * 24 ≤ _; omega) (fun h => by cases h) (fun _ b2 c2 hc2 => ?_)
        have hcells : ((ds.map Bk.v).map EV.v).take (k * 1) ++ [EV.v (.slice none 0 0)] = ((ds ++ [((none, ls, 0) : Bk)]).map Bk.v).map EV.v := by
          rw [List.take_of_length_le (by rw [hlk, Nat.mul_one]; exact Nat.le_refl _)]
          simp [he]
        (refine run ?_; repeat intro b)
        rw [wrap_succ (by omega)]
        exact s_loopPq (k + 1, ds ++ [(none, ls, 0)], G, some b2, c2) 5 [(7, 5), (4, 4), (3, 3), (1, 1), (0, 0)] [3, 1, 2, 17, 18, 19]
          [(5, ⟨some b2, ((ds ++ [((none, ls, 0) : Bk)]).map Bk.v).map .v, 32, c2 * 1⟩), (4, ⟨some bh, (c.heads.flatMap Head.row).map .v, 31, c5 * 4⟩), (3, Go.TR.mark bA),
           (1, ⟨some bY, [.v (i64 0), .v (.slice none 0 0), .v (i64 0), .v (i64 0), .v (i64 0), .v (.slice none 0 0), .v (.slice none 0 0)], 28, 7⟩),
           (0, ⟨some bX, [.v (i64 c.queue.most), .v (.slice none c.queue.wait.length 0), .v (i64 c.batch), .v (i64 c.every), .v (i64 c.now), .row 4 0 c.heads.length c5, .v (.slice a.b c.books.length a.cb)], 28, 7⟩)]
          ⟨hlt, hG, by rw [htk, List.map_append, hds]; rfl, (fun s hs => by
            rcases List.mem_append.1 hs with hs | hs
            · exact hda s hs
            · rw [List.mem_singleton.1 hs]; exact (by show SlAt _ _ _ _ ls.length _ _; exact ⟨flat_len entry_row _, Nat.le_of_eq he, .inl ⟨rfl, he, rfl⟩⟩)), (fun h => by cases h), hc2⟩ (by simp only; omega) (Nat.min_le_left _ _)
          ⟨rfl, ⟨_, rfl, rfl, rfl, rfl, .inl ⟨hcells.symm, fun e he => all_v _ e (hcells ▸ he)⟩⟩, rfl, ⟨_, rfl, rfl, rfl, rfl, .inl ⟨rfl, fun e he => all_v _ e he⟩⟩, rfl, ⟨_, rfl, rfl, rfl, rfl, .inr rfl⟩, rfl, ⟨_, rfl, rfl, rfl, rfl, .inr rfl⟩, rfl, ⟨_, rfl, rfl, rfl, rfl, .inr rfl⟩, trivial⟩ rfl rfl rfl rfl rfl rfl rfl
      · rw [Nat.zero_add ls.length]
        rw [Nat.zero_add ls.length] at hc6
        refine s_shift (VS.freezeA (n := ls.length) (c := c6) 6 [1, 2, 3, 17, 18, 19, 23, 25] rfl (allV_map_v _) rfl rfl rfl (flat_len entry_row _) hc6 (by rw [flat_len entry_row]; exact Nat.mul_pos hpos (by decide)) fun G2 hG2 hf2 _ => VS.id ?_)
        rw [frzL_v, frzL_v]
        (refine run ?_; repeat intro b)
        refine s_appR rfl rfl rfl rfl rfl rfl rfl rfl (src_row rfl rfl) (fun e he => by rw [List.mem_singleton.1 he]; exact ⟨rfl, _, rfl⟩) h3 h4 rfl (by rw [hlk, Nat.mul_one]; exact Nat.le_refl _) (by show _ * 24 ≤ _; omega) (fun h => by cases h) (fun _ b2 c2 hc2 => ?_)
        have hcells : ((ds.map Bk.v).map EV.v).take (k * 1) ++ [EV.v (.slice (some ⟨be, 0, none⟩) ls.length c6)] = ((ds ++ [((some ⟨be, 0, none⟩, ls, c6) : Bk)]).map Bk.v).map EV.v := by
          rw [List.take_of_length_le (by rw [hlk, Nat.mul_one]; exact Nat.le_refl _)]
          simp
        (refine run ?_; repeat intro b)
        rw [wrap_succ (by omega)]
        exact s_loopPq (k + 1, ds ++ [(some ⟨be, 0, none⟩, ls, c6)], G2, some b2, c2) 5 [(8, 5), (4, 4), (3, 3), (1, 1), (0, 0)] [3, 1, 2, 17, 18, 19]
          [(5, ⟨some b2, ((ds ++ [((some ⟨be, 0, none⟩, ls, c6) : Bk)]).map Bk.v).map .v, 32, c2 * 1⟩), (4, ⟨some bh, (c.heads.flatMap Head.row).map .v, 31, c5 * 4⟩), (3, Go.TR.mark bA),
           (1, ⟨some bY, [.v (i64 0), .v (.slice none 0 0), .v (i64 0), .v (i64 0), .v (i64 0), .v (.slice none 0 0), .v (.slice none 0 0)], 28, 7⟩),
           (0, ⟨some bX, [.v (i64 c.queue.most), .v (.slice none c.queue.wait.length 0), .v (i64 c.batch), .v (i64 c.every), .v (i64 c.now), .row 4 0 c.heads.length c5, .v (.slice a.b c.books.length a.cb)], 28, 7⟩)]
          ⟨hlt, hG.trans hG2, by rw [htk, List.map_append, hds]; rfl, (fun s hs => by
            rcases List.mem_append.1 hs with hs | hs
            · exact SlAt.sub' hG2 (hda s hs)
            · rw [List.mem_singleton.1 hs]; exact hf2), (fun h => by cases h), hc2⟩ (by simp only; omega) (Nat.min_le_left _ _)
          ⟨rfl, ⟨_, rfl, rfl, rfl, rfl, .inl ⟨hcells.symm, fun e he => all_v _ e (hcells ▸ he)⟩⟩, rfl, ⟨_, rfl, rfl, rfl, rfl, .inl ⟨rfl, fun e he => all_v _ e he⟩⟩, rfl, ⟨_, rfl, rfl, rfl, rfl, .inr rfl⟩, rfl, ⟨_, rfl, rfl, rfl, rfl, .inr rfl⟩, rfl, ⟨_, rfl, rfl, rfl, rfl, .inr rfl⟩, trivial⟩ rfl rfl rfl rfl rfl rfl rfl
    · have hge : k = c.books.length := by omega
      subst hge
      rw [List.take_length] at hds
      obtain ⟨bb, rfl⟩ : ∃ bb, blk = some bb := by
        cases hbk : blk with
        | none => have := (h3 hbk).1; omega
        | some bb => exact ⟨bb, rfl⟩
      (refine run ?_; repeat intro b)
      refine s_if false (by rw [← decide_eq_false (p := ((c.books.length : Nat) : Int) < ((c.books.length : Nat) : Int)) (by omega)]; rfl) (fun h => by cases h) (fun _ => ?_)
      (refine run ?_; repeat intro b)
      refine s_retG (VS.id ?_)
      refine ⟨_, rfl, ⟨none, 0, some ⟨bh, 0, none⟩, c5, some ⟨bb, 0, none⟩, cap⟩, bA, bh, bb, ds, rfl, ⟨SlAt.sub' hG sw, yw, rfl, hc5, rfl, h4, hds, hda⟩, rfl⟩
  · rw [Nat.zero_add c.queue.wait.length]
    rw [Nat.zero_add c.queue.wait.length] at hcw2
    refine s_shift (VS.mark fun bA hA => VS.freezeA (n := c.queue.wait.length) (c := cw2) 2 [1, 2, 9] rfl (allV_map_v _) rfl rfl rfl (flat_len ask_cells _) hcw2 (by rw [flat_len ask_cells]; omega) fun F1 hs1 sw _ => VS.id ?_)
    have hbw : bA ≤ bw := hA 2 _ bw rfl rfl
    clear hA
    have yw : Young bA (some ⟨bw, 0, none⟩) := fun b hb => by cases hb; exact hbw
    (refine run ?_; repeat intro b)
    refine s_appV [] rfl rfl rfl rfl rfl rfl rfl (frow_nil _ _) (src_frz (flat_len head_row _) (frow_sub hs1 ha.h)) (one_v _ (head_one _)) (by show _ * 32 ≤ _; omega) (fun h => by omega) (fun _ bh c5 hc5 => ?_)
    rw [Nat.zero_add c.heads.length]
    rw [Nat.zero_add c.heads.length] at hc5
    (refine run ?_; repeat intro b)
    refine s_loopP (fun q : Nat × List Bk × Hp × Option Nat × Nat => q.1 ≤ c.books.length ∧ F1.sub q.2.2.1 ∧ q.2.1.map (·.2.1) = c.books.take q.1 ∧ (∀ s ∈ q.2.1, BkS q.2.2.1 s) ∧ (q.2.2.2.1 = none → q.1 = 0 ∧ q.2.2.2.2 = 0) ∧ q.1 ≤ q.2.2.2.2)
      (fun q => ⟨[(3, .row 5 0 q.1 q.2.2.2.2), (1, .loc 0 0), (2, .loc 1 0), (17, .v (.slice a.b c.books.length a.cb)), (18, .v (i64 (c.books.length : Nat))), (19, .v (i64 (q.1 : Nat)))], q.2.2.1,
        [(5, ⟨q.2.2.2.1, (q.2.1.map Bk.v).map .v, 32, q.2.2.2.2 * 1⟩), (4, ⟨some bh, (c.heads.flatMap Head.row).map .v, 31, c5 * 4⟩), (3, Go.TR.mark bA),
         (1, ⟨some bY, [.v (i64 0), .v (.slice none 0 0), .v (i64 0), .v (i64 0), .v (i64 0), .v (.slice none 0 0), .v (.slice none 0 0)], 28, 7⟩),
         (0, ⟨some bX, [.v (i64 c.queue.most), .v (.slice (some ⟨bw, 0, none⟩) c.queue.wait.length cw2), .v (i64 c.batch), .v (i64 c.every), .v (i64 c.now), .row 4 0 c.heads.length c5, .v (.slice a.b c.books.length a.cb)], 28, 7⟩)], 6⟩)
      (fun q => c.books.length - q.1) (0, [], F1, none, 0) ⟨Nat.zero_le _, fun _ _ h => h, rfl, (fun s hs => by cases hs), fun _ => ⟨rfl, rfl⟩, Nat.le_refl _⟩ (VS.nilrow 3 32 [1, 2, 17, 18, 19] rfl rfl (VS.id (by first | rfl | (rw [h]; rfl)))) ?_
    rintro ⟨k, ds, G, blk, cap⟩ ⟨hk, hG, hds, hda, h3, h4⟩
    dsimp only at hk hG hds hda h3 h4 ⊢
    have hdl : ds.length = k := by
      have := congrArg List.length hds
      rw [List.length_map, List.length_take] at this
      omega
    have hlk : ((ds.map Bk.v).map EV.v).length = k := by rw [List.length_map, List.length_map]; exact hdl
    have hFG : F.sub G := Hp.sub.trans hs1 hG
    by_cases hlt : k < c.books.length
    · obtain ⟨⟨ps, ls, cs⟩, k1, k2, k3⟩ := bk_get hb hlt
      have kc := pcell_sub hFG (bk_cell hfb k1)
      have hat := Bk.at_sub hFG (hbs _ k3)
      have h24 := hS.each c.books[k] (List.getElem_mem hlt)
      have htk : c.books.take (k + 1) = c.books.take k ++ [c.books[k]] := List.take_succ_eq_append_getElem hlt
      simp only at k2 hat
      rw [← k2] at h24 htk
      (refine run ?_; repeat intro b)
      refine s_if true (by rw [← decide_eq_true (p := ((k : Nat) : Int) < ((c.books.length : Nat) : Int)) (by omega)]; rfl) (fun _ => ?_) (fun h => by cases h)
      (refine run ?_; repeat intro b)
      refine s_pureO rfl rfl rfl ⟨by omega, by omega, frow_some (frow_sub hFG hfb) (j := k) (by rw [List.length_map, hbl]; omega)⟩ ?_
      refine s_load (Bk.v (ps, ls, cs)) rfl rfl rfl rfl (by rw [Int.toNat_natCast, Nat.mul_one]; exact kc) ?_
      (refine run ?_; repeat intro b)
      refine s_appV [] rfl rfl rfl rfl rfl rfl rfl (frow_nil _ _) (src_frz (flat_len entry_row _) hat.2) (one_v _ (entry_one _)) (by have h24' : ls.length ≤ 24 := h24; show (0 + ls.length) * 32 ≤ _; omega) (fun he => ?_) (fun hpos be c6 hc6 => ?_)
      · (refine run ?_; repeat intro b)
        refine s_appR rfl rfl rfl rfl rfl rfl rfl rfl (src_row rfl rfl) (fun e he => by rw [List.mem_singleton.1 he]; exact ⟨rfl, _, rfl⟩) h3 h4 rfl (by rw [hlk, Nat.mul_one]; exact Nat.le_refl _) (by show _ * 24 ≤ _; omega) (fun h => by cases h) (fun _ b2 c2 hc2 => ?_)
        have hcells : ((ds.map Bk.v).map EV.v).take (k * 1) ++ [EV.v (.slice none 0 0)] = ((ds ++ [((none, ls, 0) : Bk)]).map Bk.v).map EV.v := by
          rw [List.take_of_length_le (by rw [hlk, Nat.mul_one]; exact Nat.le_refl _)]
          simp [he]
        (refine run ?_; repeat intro b)
        rw [wrap_succ (by omega)]
        exact s_loopPq (k + 1, ds ++ [(none, ls, 0)], G, some b2, c2) 5 [(7, 5), (4, 4), (3, 3), (1, 1), (0, 0)] [3, 1, 2, 17, 18, 19]
          [(5, ⟨some b2, ((ds ++ [((none, ls, 0) : Bk)]).map Bk.v).map .v, 32, c2 * 1⟩), (4, ⟨some bh, (c.heads.flatMap Head.row).map .v, 31, c5 * 4⟩), (3, Go.TR.mark bA),
           (1, ⟨some bY, [.v (i64 0), .v (.slice none 0 0), .v (i64 0), .v (i64 0), .v (i64 0), .v (.slice none 0 0), .v (.slice none 0 0)], 28, 7⟩),
           (0, ⟨some bX, [.v (i64 c.queue.most), .v (.slice (some ⟨bw, 0, none⟩) c.queue.wait.length cw2), .v (i64 c.batch), .v (i64 c.every), .v (i64 c.now), .row 4 0 c.heads.length c5, .v (.slice a.b c.books.length a.cb)], 28, 7⟩)]
          ⟨hlt, hG, by rw [htk, List.map_append, hds]; rfl, (fun s hs => by
            rcases List.mem_append.1 hs with hs | hs
            · exact hda s hs
            · rw [List.mem_singleton.1 hs]; exact (by show SlAt _ _ _ _ ls.length _ _; exact ⟨flat_len entry_row _, Nat.le_of_eq he, .inl ⟨rfl, he, rfl⟩⟩)), (fun h => by cases h), hc2⟩ (by simp only; omega) (Nat.min_le_left _ _)
          ⟨rfl, ⟨_, rfl, rfl, rfl, rfl, .inl ⟨hcells.symm, fun e he => all_v _ e (hcells ▸ he)⟩⟩, rfl, ⟨_, rfl, rfl, rfl, rfl, .inl ⟨rfl, fun e he => all_v _ e he⟩⟩, rfl, ⟨_, rfl, rfl, rfl, rfl, .inr rfl⟩, rfl, ⟨_, rfl, rfl, rfl, rfl, .inr rfl⟩, rfl, ⟨_, rfl, rfl, rfl, rfl, .inr rfl⟩, trivial⟩ rfl rfl rfl rfl rfl rfl rfl
      · rw [Nat.zero_add ls.length]
        rw [Nat.zero_add ls.length] at hc6
        refine s_shift (VS.freezeA (n := ls.length) (c := c6) 6 [1, 2, 3, 17, 18, 19, 23, 25] rfl (allV_map_v _) rfl rfl rfl (flat_len entry_row _) hc6 (by rw [flat_len entry_row]; exact Nat.mul_pos hpos (by decide)) fun G2 hG2 hf2 _ => VS.id ?_)
        rw [frzL_v, frzL_v]
        (refine run ?_; repeat intro b)
        refine s_appR rfl rfl rfl rfl rfl rfl rfl rfl (src_row rfl rfl) (fun e he => by rw [List.mem_singleton.1 he]; exact ⟨rfl, _, rfl⟩) h3 h4 rfl (by rw [hlk, Nat.mul_one]; exact Nat.le_refl _) (by show _ * 24 ≤ _; omega) (fun h => by cases h) (fun _ b2 c2 hc2 => ?_)
        have hcells : ((ds.map Bk.v).map EV.v).take (k * 1) ++ [EV.v (.slice (some ⟨be, 0, none⟩) ls.length c6)] = ((ds ++ [((some ⟨be, 0, none⟩, ls, c6) : Bk)]).map Bk.v).map EV.v := by
          rw [List.take_of_length_le (by rw [hlk, Nat.mul_one]; exact Nat.le_refl _)]
          simp
        (refine run ?_; repeat intro b)
        rw [wrap_succ (by omega)]
        exact s_loopPq (k + 1, ds ++ [(some ⟨be, 0, none⟩, ls, c6)], G2, some b2, c2) 5 [(8, 5), (4, 4), (3, 3), (1, 1), (0, 0)] [3, 1, 2, 17, 18, 19]
          [(5, ⟨some b2, ((ds ++ [((some ⟨be, 0, none⟩, ls, c6) : Bk)]).map Bk.v).map .v, 32, c2 * 1⟩), (4, ⟨some bh, (c.heads.flatMap Head.row).map .v, 31, c5 * 4⟩), (3, Go.TR.mark bA),
           (1, ⟨some bY, [.v (i64 0), .v (.slice none 0 0), .v (i64 0), .v (i64 0), .v (i64 0), .v (.slice none 0 0), .v (.slice none 0 0)], 28, 7⟩),
           (0, ⟨some bX, [.v (i64 c.queue.most), .v (.slice (some ⟨bw, 0, none⟩) c.queue.wait.length cw2), .v (i64 c.batch), .v (i64 c.every), .v (i64 c.now), .row 4 0 c.heads.length c5, .v (.slice a.b c.books.length a.cb)], 28, 7⟩)]
          ⟨hlt, hG.trans hG2, by rw [htk, List.map_append, hds]; rfl, (fun s hs => by
            rcases List.mem_append.1 hs with hs | hs
            · exact SlAt.sub' hG2 (hda s hs)
            · rw [List.mem_singleton.1 hs]; exact hf2), (fun h => by cases h), hc2⟩ (by simp only; omega) (Nat.min_le_left _ _)
          ⟨rfl, ⟨_, rfl, rfl, rfl, rfl, .inl ⟨hcells.symm, fun e he => all_v _ e (hcells ▸ he)⟩⟩, rfl, ⟨_, rfl, rfl, rfl, rfl, .inl ⟨rfl, fun e he => all_v _ e he⟩⟩, rfl, ⟨_, rfl, rfl, rfl, rfl, .inr rfl⟩, rfl, ⟨_, rfl, rfl, rfl, rfl, .inr rfl⟩, rfl, ⟨_, rfl, rfl, rfl, rfl, .inr rfl⟩, trivial⟩ rfl rfl rfl rfl rfl rfl rfl
    · have hge : k = c.books.length := by omega
      subst hge
      rw [List.take_length] at hds
      obtain ⟨bb, rfl⟩ : ∃ bb, blk = some bb := by
        cases hbk : blk with
        | none => have := (h3 hbk).1; omega
        | some bb => exact ⟨bb, rfl⟩
      (refine run ?_; repeat intro b)
      refine s_if false (by rw [← decide_eq_false (p := ((c.books.length : Nat) : Int) < ((c.books.length : Nat) : Int)) (by omega)]; rfl) (fun h => by cases h) (fun _ => ?_)
      (refine run ?_; repeat intro b)
      refine s_retG (VS.id ?_)
      refine ⟨_, rfl, ⟨(some ⟨bw, 0, none⟩), cw2, some ⟨bh, 0, none⟩, c5, some ⟨bb, 0, none⟩, cap⟩, bA, bh, bb, ds, rfl, ⟨SlAt.sub' hG sw, yw, rfl, hc5, rfl, h4, hds, hda⟩, rfl⟩
end Go.Proofs.YthkkgphjjmhglaaGreatDoor
