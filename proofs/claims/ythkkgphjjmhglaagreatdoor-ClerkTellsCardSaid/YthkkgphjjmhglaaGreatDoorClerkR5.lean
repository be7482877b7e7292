/-
The reference's ClerkTick: the walk.
-/
import Derived.Test.YthkkgphjjmhglaaGreatDoorClerkR4
import Derived.Test.YthkkgphjjmhglaaGreatDoorClerk5
import Derived.Test.YthkkgphjjmhglaaGreatDoorFwN
namespace Go.Proofs.YthkkgphjjmhglaaGreatDoor
set_option linter.unusedVariables false
set_option linter.unusedSimpArgs false
open Go.TR
theorem sets_book {l : List Entry} (h : Book l) : ∀ asks : List Ask, Book (setsL l asks)
  | [] => h
  | a :: t => sets_book (set_book h a.name a.value) t
theorem taken_len (c : Clerk) : (takenL c).length = min c.batch.toNat c.queue.wait.length := by unfold takenL; rw [List.length_take]
theorem taken_get (c : Clerk) {k : Nat} (h : k < (takenL c).length) (h2 : k < c.queue.wait.length) : (takenL c)[k] = c.queue.wait[k] := List.getElem_take
theorem cells_lt {n : Nat} (l : List EV) (h : l.all (ltB n) = true) : ∀ e ∈ l, EV.lt n e := fun e he => ltB_lt (List.all_eq_true.1 h e he)
theorem seg_mid {α : Type} (A B C : List α) {n k : Nat} (h : A.length = n) (hk : B.length = k) : ((A ++ (B ++ C)).take (n + k)).drop n = B := by
  subst h hk
  rw [List.take_append, List.take_of_length_le (by omega), Nat.add_sub_cancel_left, List.take_left, List.drop_left]
theorem head_seg {l : List Head} {j : Nat} (h : j < l.length) : (((l.flatMap Head.row).map EV.v).take (j * 4 + 4)).drop (j * 4) = (l[j].row).map EV.v := by
  have e : l = l.take j ++ (l[j] :: l.drop (j + 1)) := by rw [← List.drop_eq_getElem_cons h, List.take_append_drop]
  have h1 : ((l.take j).flatMap Head.row).length = j * 4 := by rw [flat_len head_row, List.length_take]; omega
  have e2 : l.flatMap Head.row = (l.take j).flatMap Head.row ++ (l[j].row ++ (l.drop (j + 1)).flatMap Head.row) := by
    conv => lhs; rw [e]
    rw [List.flatMap_append, List.flatMap_cons]
  rw [← List.map_take, ← List.map_drop, e2, seg_mid (k := 4) _ _ _ h1 rfl]
attribute [local irreducible] vc vcOps seqK blockK loopK retK retG retI loopV Plain CallOK CallIn bodied VS vcAny dropG backK brK loopPK IntKind.wrap
attribute [local irreducible] bookFault lvlN rootsF lastB lastH clerkF queueFault chainF booksF namesN askFault closedB setsL takenL nextB nextHd setL setE slBase
set_option maxRecDepth 100000
set_option maxHeartbeats 4000000
theorem reftick_ok (c : Clerk) (l : CLay) (hG : Good c) (hw : c.wf) {F : Hp} (ha : c.at F l) : CallF Tryz.prog F 25 [c.v l] (fun y F' => ∃ l', y = pair ((tickC c).v l') (.bool (tickB c)) ∧ (tickC c).at F' l') := by
  have h0 := hG.fault
  have hS := hG.small
  obtain ⟨q1, q2, q3, _⟩ := queue_zero hG.queue
  obtain ⟨t1, t2, t3, t4, t5, t6⟩ := hG.times
  have hlen := hG.lens
  refine CallOK.drop (call_vc (N := 94) (rv := [.cell 2 28, .tmp 3]) tbok mixed Tryz.func25 rfl rfl rfl rfl rfl ?_)
  (refine run ?_; repeat intro b)
  rename_i bc
  revert b; intro br
  refine s_call rfl rfl rfl bd76 rfl (ownclerk_ok c l hS (by omega) (by omega) ha) ?_
  rintro _ F1 _ hF1 ⟨l', bA, bh, bb, bs, rfl, hO, rfl⟩
  refine ⟨6, .v (c.v l'), own_lt bA bs c.heads bh bb _ _, rfl, ?_⟩
  obtain ⟨lw, lcw, lh, lch, lb, lcb⟩ := l'
  obtain ⟨hsw, hyw, rfl, hch, rfl, hcb, hbs, hBs0⟩ := hO
  simp only at hsw hyw hch hcb
  rw [shift_own]
  have hbl := bks_len hbs
  (refine run ?_; repeat intro b)
  revert b; intro bo
  refine s_plain _ rfl rfl rfl bd75 rfl (refclosed_ok c l F1) ?_
  (refine run ?_; repeat intro b)
  refine s_if (closedB c) rfl (fun h1 => ?_) (fun h1 => ?_)
  · obtain ⟨e1, e2⟩ := tick_closed h0 h1
    rw [e1, e2]
    (refine run ?_; repeat intro b)
    refine s_retG (VS.freezeA (n := c.heads.length) (c := lch) 6 [2, 3] rfl (allV_map_v _) rfl rfl rfl (flat_len head_row _) hch (by rw [flat_len head_row]; omega) fun Fa hsa hHa _ => ?_)
    refine VS.freezeA (n := c.books.length) (c := lcb) (cs := bs.map Bk.v) 7 [2, 3] rfl (by rw [frzL_v]; exact allV_map_v _) rfl rfl rfl (by rw [List.length_map, hbl, Nat.mul_one]) hcb (by rw [List.length_map, hbl]; omega) fun Fb hsb hB0 _ => VS.id ?_
    exact ⟨_, rfl, ⟨lw, lcw, some ⟨bh, 0, none⟩, lch, some ⟨bb, 0, none⟩, lcb⟩, rfl, (SlAt.sub' (hsa.trans hsb) hsw).frow, hsw.2.1, (SlAt.sub' hsb hHa).frow, hch, hcb, bs, hbs, hB0.frow, fun s hs => BkS.at (SlAt.sub' (hsa.trans hsb) (hBs0 s hs))⟩
  (refine run ?_; repeat intro b)
  rw [wrap_i64 (n := c.now + 1) (by omega) (by omega)]
  (refine run ?_; repeat intro b)
  refine s_pureO rfl rfl rfl (by omega) ?_
  rw [tmod_pos (by omega)]
  (refine run ?_; repeat intro b)
  refine s_if (decide ((c.now + 1) % c.every ≠ 0)) ?_ (fun h2 => ?_) (fun h2 => ?_)
  · refine congrArg (fun b => some (EV.v (.bool b))) ?_
    rw [Bool.eq_iff_iff]; simp
  · obtain ⟨e1, e2⟩ := tick_wait h0 h1 (of_decide_eq_true h2)
    rw [e1, e2]
    (refine run ?_; repeat intro b)
    refine s_retG (VS.freezeA (n := c.heads.length) (c := lch) 6 [2, 3] rfl (allV_map_v _) rfl rfl rfl (flat_len head_row _) hch (by rw [flat_len head_row]; omega) fun Fa hsa hHa _ => ?_)
    refine VS.freezeA (n := c.books.length) (c := lcb) (cs := bs.map Bk.v) 7 [2, 3] rfl (by rw [frzL_v]; exact allV_map_v _) rfl rfl rfl (by rw [List.length_map, hbl, Nat.mul_one]) hcb (by rw [List.length_map, hbl]; omega) fun Fb hsb hB0 _ => VS.id ?_
    exact ⟨_, rfl, ⟨lw, lcw, some ⟨bh, 0, none⟩, lch, some ⟨bb, 0, none⟩, lcb⟩, rfl, (SlAt.sub' (hsa.trans hsb) hsw).frow, hsw.2.1, (SlAt.sub' hsb hHa).frow, hch, hcb, bs, hbs, hB0.frow, fun s hs => BkS.at (SlAt.sub' (hsa.trans hsb) (hBs0 s hs))⟩
  have h2 : (c.now + 1) % c.every = 0 := by have := of_decide_eq_false h2; omega
  obtain ⟨e1, e2⟩ := tick_due h0 h1 h2
  rw [e1, e2]
  obtain ⟨k0, k1', k2⟩ : ∃ s : Bk, bs[c.books.length - 1]? = some s ∧ s.2.1 = lastB c ∧ s ∈ bs := by
    obtain ⟨s, g1, g2, g3⟩ := bk_get hbs (k := c.books.length - 1) (by omega)
    exact ⟨s, g1, by rw [g2, lastB_get (by omega)], g3⟩
  obtain ⟨ps, ls, cs⟩ := k0
  obtain ⟨k2, k3⟩ := k2
  have hat := hBs0 _ k3
  have hbb := book_of hG.last
  obtain ⟨g1, g2, g3⟩ := hG.sets
  have hlw := (hw.books _ (lastB_mem (c := c) (by omega))).2
  have h24 := (bookFault_zero hG.last).1
  have haw : ∀ a ∈ takenL c, a.wf := fun a h => hw.queue.wait a (by unfold takenL at h; exact List.mem_of_mem_take h)
  have hsw2 := sets_wf hlw haw g3
  have hss := sets_small h24 g3
  have htl := taken_len c
  have htg := fun k h h2 => taken_get c (k := k) h h2
  have hsb := fun k => sets_book hbb ((takenL c).take k)
  have hdl : (c.queue.wait.drop c.batch.toNat).length = c.queue.wait.length - (takenL c).length := by rw [List.length_drop, htl]; omega
  have hdd : c.queue.wait.drop (takenL c).length = c.queue.wait.drop c.batch.toNat := by rw [htl, (take_min _ _).2]
  simp only at k2
  subst k2
  have ew : IntKind.i64.wrap (((c.books.length : Nat) : Int) - 1) = ((c.books.length - 1 : Nat) : Int) := by rw [wrap_i64 (by omega) (by omega)]; omega
  have ew2 : IntKind.i64.wrap (((c.heads.length : Nat) : Int) - 1) = ((c.heads.length - 1 : Nat) : Int) := by rw [wrap_i64 (by omega) (by omega)]; omega
  (refine runR ?_; repeat intro b)
  refine s_vs (VS.recell 8 [.v (i64 c.queue.most), .v (.slice lw c.queue.wait.length lcw), .v (i64 c.batch), .v (i64 c.every), .v (i64 (c.now + 1)), .row 6 0 c.heads.length lch, .row 7 0 c.books.length lcb] rfl ⟨⟨trivial, rfl⟩, ⟨trivial, rfl⟩, ⟨trivial, rfl⟩, ⟨trivial, rfl⟩, ⟨trivial, rfl⟩, ⟨(by decide : 6 < 9), rfl⟩, ⟨(by decide : 7 < 9), rfl⟩, trivial⟩ rfl (VS.id ?_))
  (refine run ?_; repeat intro b)
  rw [ew]
  refine s_pureO rfl rfl rfl ⟨by omega, by omega, _, _, rfl, rfl⟩ ?_
  refine s_locX (.slice ps (lastB c).length cs) rfl rfl rfl rfl rfl (by
    show ((bs.map Bk.v).map EV.v)[0 + ((c.books.length - 1 : Nat) : Int).toNat * 1]? = _
    rw [Int.toNat_natCast, Nat.mul_one, Nat.zero_add, List.getElem?_map, List.getElem?_map, k1']
    rfl) ?_
  (refine run ?_; repeat intro b)
  rw [show (lastB c).length = (setsL (lastB c) ((takenL c).take 0)).length from by rw [setsL_zero]]
  refine s_loopP (fun q : Nat × Option Addr × (Option Addr × Nat) × Hp => q.1 ≤ (takenL c).length ∧ F1.sub q.2.2.2 ∧ (∀ G', Frow G' lw (c.queue.wait.flatMap Ask.cells) → Frow G' q.2.1 ((c.queue.wait.drop q.1).flatMap Ask.cells)) ∧ SlAt q.2.2.2 70 2 q.2.2.1.1 (setsL (lastB c) ((takenL c).take q.1)).length q.2.2.1.2 ((setsL (lastB c) ((takenL c).take q.1)).flatMap Entry.row))
    (fun q => ⟨[(1, .loc 0 0), (2, .loc 1 0), (4, .loc 8 0), (5, .v (.slice q.2.2.1.1 (setsL (lastB c) ((takenL c).take q.1)).length q.2.2.1.2)), (6, .v (i64 (q.1 : Nat)))], q.2.2.2,
      [(8, ⟨some bo, [.v (i64 c.queue.most), .v (.slice q.2.1 (c.queue.wait.length - q.1) (lcw - q.1)), .v (i64 c.batch), .v (i64 c.every), .v (i64 (c.now + 1)), .row 6 0 c.heads.length lch, .row 7 0 c.books.length lcb], 28, 7⟩),
       (7, ⟨some bb, (bs.map Bk.v).map .v, 32, lcb * 1⟩), (6, ⟨some bh, (c.heads.flatMap Head.row).map .v, 31, lch * 4⟩),
       (1, ⟨some br, [.v (i64 0), .v (.slice none 0 0), .v (i64 0), .v (i64 0), .v (i64 0), .v (.slice none 0 0), .v (.slice none 0 0)], 28, 7⟩),
       (0, ⟨some bc, [.v (i64 c.queue.most), .v (.slice l.w c.queue.wait.length l.cw), .v (i64 c.batch), .v (i64 c.every), .v (i64 c.now), .v (.slice l.h c.heads.length l.ch), .v (.slice l.b c.books.length l.cb)], 28, 7⟩)], 9⟩)
    (fun q => (takenL c).length - q.1) (0, lw, (ps, cs), F1) ⟨Nat.zero_le _, fun _ _ h => h, fun _ h => h, by dsimp only; rw [setsL_zero]; exact hat⟩ (VS.dropR [5] rfl (VS.keepN [1, 2, 4, 5, 6] rfl rfl)) ?_
  rintro ⟨k, pk, ⟨p4, c4⟩, G⟩ ⟨hk, hG1, hpk, hf4⟩
  dsimp only at hk hG1 hpk hf4 ⊢
  have hswG := SlAt.sub' hG1 hsw
  have hcw := hsw.2.1
  by_cases hlt : k < (takenL c).length
  · have hkn : k < c.queue.wait.length := by omega
    have hfa := hpk G hswG.frow
    have hdk : (c.queue.wait.drop k).length = c.queue.wait.length - k := List.length_drop
    obtain ⟨o1, o2⟩ := frow_agg ask_cells (by decide) hfa 0 (by omega)
    have ek : (c.queue.wait.drop k)[0]'(by omega) = (takenL c)[k] := by rw [htg k hlt hkn, List.getElem_drop]; rfl
    rw [ek] at o2
    have w0 := hsw2 k hk
    have l0 := hss k hk
    have wa := haw _ (List.getElem_mem hlt)
    have st := setsL_succ (lastB c) hlt
    generalize (takenL c)[k] = ak at *
    have hset := bookset_sl (setsL (lastB c) ((takenL c).take k)) ak.name ak.value (hsb k) (by omega) w0 wa.name (c := c4) hf4.frow
    rw [← st] at hset
    (refine run ?_; repeat intro b)
    refine s_if true ?_ (fun _ => ?_) (fun h => by cases h)
    · refine congrArg (fun b => some (EV.v (.bool b))) ?_
      rw [bpick_and, Bool.eq_iff_iff]; simp
      omega
    (refine run ?_; repeat intro b)
    refine s_pureO rfl rfl rfl ⟨by omega, by omega, frow_some hfa (j := 0) (by rw [flat_len ask_cells]; omega)⟩ ?_
    refine s_loadA ak.cells rfl rfl rfl rfl rfl o1 o2 ?_
    (refine run ?_; repeat intro b)
    refine s_pureO rfl rfl rfl ⟨by omega, by omega, by omega⟩ ?_
    (refine run ?_; repeat intro b)
    refine s_callF rfl rfl rfl bd33 rfl hset ?_
    rintro _ G2 hG2 ⟨p5, c5, rfl, hf5⟩
    (refine run ?_; repeat intro b)
    rw [wrap_succ (by omega)]
    exact s_loopPc (k + 1, slBase pk 1 (lcw - k) 4, (p5, c5), G2) [9] [1, 2, 4, 5, 6] ⟨hlt, hG1.trans hG2, fun G' h => by
      have := frow_flat_drop ask_cells (hpk G' h) 1 (lcw - k) (by rw [hdk]; omega) (by rw [hdk]; omega)
      rw [List.drop_drop] at this
      exact this, hf5⟩ (by simp only; omega) rfl rfl rfl rfl ⟨⟨(show 8 < 9 by decide), cells_lt _ rfl⟩, ⟨(show 7 < 9 by decide), vals_lt _⟩, ⟨(show 6 < 9 by decide), vals_lt _⟩, ⟨(show 1 < 9 by decide), cells_lt _ rfl⟩, ⟨(show 0 < 9 by decide), cells_lt _ rfl⟩, trivial⟩ rfl
  have hge : k = (takenL c).length := by omega
  subst hge
  have w0 := hsw2 _ hk
  have l0 := hss _ hk
  rw [List.take_length, ← nextB_def] at hf4 w0 l0 ⊢
  rw [hdd] at hpk
  have hBsG : ∀ s ∈ bs, BkS G s := fun s hs => SlAt.sub' hG1 (hBs0 s hs)
  have hjl : c.heads.length - 1 < c.heads.length := by omega
  have hseg := head_seg hjl
  have hlh := lastH_get (l := c.heads) (by omega)
  have wlh := hw.heads _ (List.getElem_mem hjl)
  rw [← hlh] at hseg wlh
  obtain ⟨lt1, lt2, lt3⟩ := hG.top
  have hnd := nextHd_def c
  (refine run ?_; repeat intro b)
  refine s_if false ?_ (fun h => by cases h) (fun _ => ?_)
  · refine congrArg (fun b => some (EV.v (.bool b))) ?_
    rw [bpick_and, Bool.eq_iff_iff]; simp
    omega
  (refine run ?_; repeat intro b)
  rw [ew2]
  refine s_pureO rfl rfl rfl ⟨by omega, by omega, _, _, rfl, rfl⟩ ?_
  generalize lastH c.heads = hl0 at *
  refine s_locXA hl0.row rfl rfl rfl rfl rfl (by
    show 0 + ((c.heads.length - 1 : Nat) : Int).toNat * 4 + 4 ≤ ((c.heads.flatMap Head.row).map EV.v).length
    rw [Int.toNat_natCast, List.length_map, flat_len head_row]; omega) (by
    show (((c.heads.flatMap Head.row).map EV.v).take (0 + ((c.heads.length - 1 : Nat) : Int).toNat * 4 + 4)).drop (0 + ((c.heads.length - 1 : Nat) : Int).toNat * 4) = _
    rw [Int.toNat_natCast, Nat.zero_add]
    exact hseg) ?_
  (refine run ?_; repeat intro b)
  have hcells : ((c.heads.flatMap Head.row).map EV.v).take (c.heads.length * 4) ++ (⟨hl0.epoch + 1, lvlN (nextB c) [], hl0.mark, c.now + 1⟩ : Head).row.map EV.v = ((c.heads ++ [nextHd c]).flatMap Head.row).map EV.v := by
    rw [List.take_of_length_le (by rw [List.length_map, flat_len head_row]; exact Nat.le_refl _), hnd, head_snoc, List.map_append]
  have hnh : ((c.heads ++ [nextHd c]).flatMap Head.row).length = (c.heads.length + 1) * 4 := by rw [flat_len head_row, List.length_append]; rfl
  refine s_join (β := Nat × Nat) (fun q => c.heads.length + 1 ≤ q.2) (fun q => ⟨[(2, .loc 1 0), (4, .loc 8 0), (5, .v (.slice p4 (nextB c).length c4))], G, [(11, ⟨some q.1, ((c.heads ++ [nextHd c]).flatMap Head.row).map .v, 31, q.2 * 4⟩), (8, ⟨some bo, [.v (i64 c.queue.most), .v (.slice pk (c.queue.wait.length - (takenL c).length) (lcw - (takenL c).length)), .v (i64 c.batch), .v (i64 c.every), .v (i64 (c.now + 1)), .row 11 0 (c.heads.length + 1) q.2, .row 7 0 c.books.length lcb], 28, 7⟩),
       (7, ⟨some bb, (bs.map Bk.v).map .v, 32, lcb * 1⟩), (1, ⟨some br, [.v (i64 0), .v (.slice none 0 0), .v (i64 0), .v (i64 0), .v (i64 0), .v (.slice none 0 0), .v (.slice none 0 0)], 28, 7⟩)], 12⟩) rfl (fun q hc2 => ?_) (fun KK2 kn kr ke => ?_)
  · obtain ⟨b2, c2⟩ := q
    dsimp only at hc2 ⊢
    (refine run ?_; repeat intro b)
    refine s_regiona [] (by kernel_rfl) ?_
    refine s_firsts [0, 2] (f' := 6) (by kernel_rfl) rfl rfl rfl ?_
    (refine run ?_; repeat intro b)
    refine s_two 1 3 (by kernel_rfl) rfl rfl rfl ?_ ?_
    · (refine run ?_; repeat intro b)
      refine s_br (Hp.sub.refl _) trivial ?_
      refine s_one 3 (by kernel_rfl) rfl rfl ?_
      refine s_appV [] rfl rfl rfl rfl rfl rfl rfl (frow_nil _ _) (src_frz (flat_len entry_row _) hf4.frow) (one_v _ (entry_one _)) (by show (0 + (nextB c).length) * 32 ≤ _; omega) (fun he => ?_) (fun hpos be c6 hc6 => ?_)
      · (refine run ?_; repeat intro b)
        refine s_br (Hp.sub.refl _) trivial ?_
        refine s_one 4 (by kernel_rfl) rfl rfl ?_
        skip
        (refine run ?_; repeat intro b)
        refine s_br (Hp.sub.refl _) trivial ?_
        refine s_one 5 (by kernel_rfl) rfl rfl ?_
        refine s_appR (news := [EV.v (.slice none 0 0)]) rfl rfl rfl rfl rfl rfl rfl rfl (src_row rfl rfl) (fun e he => by rw [List.mem_singleton.1 he]; exact ⟨rfl, _, rfl⟩) (fun h => by cases h) hcb rfl (by rw [List.length_map, List.length_map, hbl, Nat.mul_one]; exact Nat.le_refl _) (by show _ * 24 ≤ _; omega) (fun h => by cases h) (fun _ b3 c3 hc3 => ?_)
        have hcb3 : ((bs.map Bk.v).map EV.v).take (c.books.length * 1) ++ [EV.v (.slice none 0 0)] = ((bs ++ [((none, nextB c, 0) : Bk)]).map Bk.v).map EV.v := by
          rw [List.take_of_length_le (by rw [List.length_map, List.length_map, hbl, Nat.mul_one]; exact Nat.le_refl _)]
          simp [he]
        rw [hcb3]
        (refine run ?_; repeat intro b)
        refine s_br (Hp.sub.refl _) trivial ?_
        refine s_firsts [6] (f' := 1) (by kernel_rfl) rfl rfl rfl ?_
        (refine run ?_; repeat intro b)
        refine s_one 7 (by kernel_rfl) rfl rfl ?_
        (refine run ?_; repeat intro b)
        refine s_br (Hp.sub.refl _) trivial ?_
        refine s_stop (by kernel_rfl) ?_
        (refine run ?_; repeat intro b)
        refine s_retG ?_
        refine VS.freezeA (n := c.heads.length + 1) (c := c2) 11 [2, 3] rfl (allV_map_v _) rfl rfl rfl hnh hc2 (by rw [hnh]; omega) fun Fa hsa hHa _ => ?_
        refine VS.freezeA (n := c.books.length + 1) (c := c3) (cs := (bs ++ [((none, nextB c, 0) : Bk)]).map Bk.v) 13 [2, 3] rfl (by simp only [frzL_v]; exact allV_map_v _) rfl rfl rfl (by rw [List.length_map, List.length_append, hbl, Nat.mul_one]; rfl) hc3 (by rw [List.length_map, List.length_append]; exact Nat.succ_pos _) fun Fb hsb hB0 _ => VS.id ?_
        refine ⟨_, rfl, ⟨pk, lcw - (takenL c).length, some ⟨b2, 0, none⟩, c2, some ⟨b3, 0, none⟩, c3⟩, by simp only [Clerk.v, List.length_append, hdl]; rfl, hpk _ (SlAt.sub' (hsa.trans hsb) hswG).frow, by simp only [hdl]; omega, (SlAt.sub' hsb hHa).frow, by rw [List.length_append]; exact hc2, by rw [List.length_append]; exact hc3, bs ++ [(none, nextB c, 0)], by rw [List.map_append, hbs]; rfl, hB0.frow, fun s hs => ?_⟩
        rcases List.mem_append.1 hs with hs | hs
        · exact BkS.at (SlAt.sub' (hsa.trans hsb) (hBsG s hs))
        · rw [List.mem_singleton.1 hs]; exact ⟨trivial, by show Frow _ none ((nextB c).flatMap Entry.row); rw [List.eq_nil_of_length_eq_zero he]; exact frow_nil _ _⟩
      · rw [Nat.zero_add (nextB c).length]
        rw [Nat.zero_add (nextB c).length] at hc6
        (refine run ?_; repeat intro b)
        refine s_br (Hp.sub.refl _) trivial ?_
        refine s_one 4 (by kernel_rfl) rfl rfl ?_
        (refine run ?_; repeat intro b)
        refine s_br (Hp.sub.refl _) trivial ?_
        refine s_one 5 (by kernel_rfl) rfl rfl ?_
        refine s_appR (news := [EV.v (.slice (some ⟨be, 0, none⟩) (nextB c).length c6)]) rfl rfl rfl rfl rfl rfl rfl rfl (src_row rfl rfl) (fun e he => by rw [List.mem_singleton.1 he]; exact ⟨rfl, _, rfl⟩) (fun h => by cases h) hcb rfl (by rw [List.length_map, List.length_map, hbl, Nat.mul_one]; exact Nat.le_refl _) (by show _ * 24 ≤ _; omega) (fun h => by cases h) (fun _ b3 c3 hc3 => ?_)
        have hcb3 : ((bs.map Bk.v).map EV.v).take (c.books.length * 1) ++ [EV.v (.slice (some ⟨be, 0, none⟩) (nextB c).length c6)] = ((bs ++ [((some ⟨be, 0, none⟩, nextB c, c6) : Bk)]).map Bk.v).map EV.v := by
          rw [List.take_of_length_le (by rw [List.length_map, List.length_map, hbl, Nat.mul_one]; exact Nat.le_refl _)]
          simp [List.map_append]
        rw [hcb3]
        (refine run ?_; repeat intro b)
        refine s_br (Hp.sub.refl _) trivial ?_
        refine s_firsts [6] (f' := 1) (by kernel_rfl) rfl rfl rfl ?_
        (refine run ?_; repeat intro b)
        refine s_one 7 (by kernel_rfl) rfl rfl ?_
        (refine run ?_; repeat intro b)
        refine s_br (Hp.sub.refl _) trivial ?_
        refine s_stop (by kernel_rfl) ?_
        (refine run ?_; repeat intro b)
        refine s_retG ?_
        refine VS.freezeA (n := (nextB c).length) (c := c6) (cs := (nextB c).flatMap Entry.row) 12 [2, 3] rfl (allV_map_v _) rfl rfl rfl (flat_len entry_row _) hc6 (by rw [flat_len entry_row]; exact Nat.mul_pos hpos (by decide)) fun Fz hsz hIz _ => ?_
        refine VS.freezeA (n := c.heads.length + 1) (c := c2) (cs := (c.heads ++ [nextHd c]).flatMap Head.row) 11 [2, 3] rfl (by simp only [frzL_v]; exact allV_map_v _) rfl rfl rfl hnh hc2 (by rw [hnh]; omega) fun Fa hsa hHa _ => ?_
        refine VS.freezeA (n := c.books.length + 1) (c := c3) (cs := (bs ++ [((some ⟨be, 0, none⟩, nextB c, c6) : Bk)]).map Bk.v) 14 [2, 3] rfl (by simp only [frzL_v]; exact allV_map_v _) rfl rfl rfl (by rw [List.length_map, List.length_append, hbl, Nat.mul_one]; rfl) hc3 (by rw [List.length_map, List.length_append]; exact Nat.succ_pos _) fun Fb hsb hB0 _ => VS.id ?_
        refine ⟨_, rfl, ⟨pk, lcw - (takenL c).length, some ⟨b2, 0, none⟩, c2, some ⟨b3, 0, none⟩, c3⟩, by simp only [Clerk.v, List.length_append, hdl]; rfl, hpk _ (SlAt.sub' (hsz.trans (hsa.trans hsb)) hswG).frow, by simp only [hdl]; omega, (SlAt.sub' hsb hHa).frow, by rw [List.length_append]; exact hc2, by rw [List.length_append]; exact hc3, bs ++ [(some ⟨be, 0, none⟩, nextB c, c6)], by rw [List.map_append, hbs]; rfl, hB0.frow, fun s hs => ?_⟩
        rcases List.mem_append.1 hs with hs | hs
        · exact BkS.at (SlAt.sub' (hsz.trans (hsa.trans hsb)) (hBsG s hs))
        · rw [List.mem_singleton.1 hs]; exact ⟨trivial, (SlAt.sub' (hsa.trans hsb) hIz).frow⟩
    · refine s_appV [] rfl rfl rfl rfl rfl rfl rfl (frow_nil _ _) (src_frz (flat_len entry_row _) hf4.frow) (one_v _ (entry_one _)) (by show (0 + (nextB c).length) * 32 ≤ _; omega) (fun he => ?_) (fun hpos be c6 hc6 => ?_)
      · (refine run ?_; repeat intro b)
        refine s_br (Hp.sub.refl _) trivial ?_
        refine s_two 1 4 (by kernel_rfl) rfl rfl rfl ?_ ?_
        · (refine run ?_; repeat intro b)
          refine s_br (Hp.sub.refl _) trivial ?_
          refine s_one 4 (by kernel_rfl) rfl rfl ?_
          skip
          (refine run ?_; repeat intro b)
          refine s_br (Hp.sub.refl _) trivial ?_
          refine s_one 5 (by kernel_rfl) rfl rfl ?_
          refine s_appR (news := [EV.v (.slice none 0 0)]) rfl rfl rfl rfl rfl rfl rfl rfl (src_row rfl rfl) (fun e he => by rw [List.mem_singleton.1 he]; exact ⟨rfl, _, rfl⟩) (fun h => by cases h) hcb rfl (by rw [List.length_map, List.length_map, hbl, Nat.mul_one]; exact Nat.le_refl _) (by show _ * 24 ≤ _; omega) (fun h => by cases h) (fun _ b3 c3 hc3 => ?_)
          have hcb3 : ((bs.map Bk.v).map EV.v).take (c.books.length * 1) ++ [EV.v (.slice none 0 0)] = ((bs ++ [((none, nextB c, 0) : Bk)]).map Bk.v).map EV.v := by
            rw [List.take_of_length_le (by rw [List.length_map, List.length_map, hbl, Nat.mul_one]; exact Nat.le_refl _)]
            simp [he]
          rw [hcb3]
          (refine run ?_; repeat intro b)
          refine s_br (Hp.sub.refl _) trivial ?_
          refine s_firsts [6] (f' := 1) (by kernel_rfl) rfl rfl rfl ?_
          (refine run ?_; repeat intro b)
          refine s_one 7 (by kernel_rfl) rfl rfl ?_
          (refine run ?_; repeat intro b)
          refine s_br (Hp.sub.refl _) trivial ?_
          refine s_stop (by kernel_rfl) ?_
          (refine run ?_; repeat intro b)
          refine s_retG ?_
          refine VS.freezeA (n := c.heads.length + 1) (c := c2) 11 [2, 3] rfl (allV_map_v _) rfl rfl rfl hnh hc2 (by rw [hnh]; omega) fun Fa hsa hHa _ => ?_
          refine VS.freezeA (n := c.books.length + 1) (c := c3) (cs := (bs ++ [((none, nextB c, 0) : Bk)]).map Bk.v) 13 [2, 3] rfl (by simp only [frzL_v]; exact allV_map_v _) rfl rfl rfl (by rw [List.length_map, List.length_append, hbl, Nat.mul_one]; rfl) hc3 (by rw [List.length_map, List.length_append]; exact Nat.succ_pos _) fun Fb hsb hB0 _ => VS.id ?_
          refine ⟨_, rfl, ⟨pk, lcw - (takenL c).length, some ⟨b2, 0, none⟩, c2, some ⟨b3, 0, none⟩, c3⟩, by simp only [Clerk.v, List.length_append, hdl]; rfl, hpk _ (SlAt.sub' (hsa.trans hsb) hswG).frow, by simp only [hdl]; omega, (SlAt.sub' hsb hHa).frow, by rw [List.length_append]; exact hc2, by rw [List.length_append]; exact hc3, bs ++ [(none, nextB c, 0)], by rw [List.map_append, hbs]; rfl, hB0.frow, fun s hs => ?_⟩
          rcases List.mem_append.1 hs with hs | hs
          · exact BkS.at (SlAt.sub' (hsa.trans hsb) (hBsG s hs))
          · rw [List.mem_singleton.1 hs]; exact ⟨trivial, by show Frow _ none ((nextB c).flatMap Entry.row); rw [List.eq_nil_of_length_eq_zero he]; exact frow_nil _ _⟩
        · skip
          (refine run ?_; repeat intro b)
          refine s_br (Hp.sub.refl _) trivial ?_
          refine s_one 1 (by kernel_rfl) rfl rfl ?_
          (refine run ?_; repeat intro b)
          refine s_br (Hp.sub.refl _) trivial ?_
          refine s_one 5 (by kernel_rfl) rfl rfl ?_
          refine s_appR (news := [EV.v (.slice none 0 0)]) rfl rfl rfl rfl rfl rfl rfl rfl (src_row rfl rfl) (fun e he => by rw [List.mem_singleton.1 he]; exact ⟨rfl, _, rfl⟩) (fun h => by cases h) hcb rfl (by rw [List.length_map, List.length_map, hbl, Nat.mul_one]; exact Nat.le_refl _) (by show _ * 24 ≤ _; omega) (fun h => by cases h) (fun _ b3 c3 hc3 => ?_)
          have hcb3 : ((bs.map Bk.v).map EV.v).take (c.books.length * 1) ++ [EV.v (.slice none 0 0)] = ((bs ++ [((none, nextB c, 0) : Bk)]).map Bk.v).map EV.v := by
            rw [List.take_of_length_le (by rw [List.length_map, List.length_map, hbl, Nat.mul_one]; exact Nat.le_refl _)]
            simp [he]
          rw [hcb3]
          (refine run ?_; repeat intro b)
          refine s_br (Hp.sub.refl _) trivial ?_
          refine s_firsts [6] (f' := 1) (by kernel_rfl) rfl rfl rfl ?_
          (refine run ?_; repeat intro b)
          refine s_one 7 (by kernel_rfl) rfl rfl ?_
          (refine run ?_; repeat intro b)
          refine s_br (Hp.sub.refl _) trivial ?_
          refine s_stop (by kernel_rfl) ?_
          (refine run ?_; repeat intro b)
          refine s_retG ?_
          refine VS.freezeA (n := c.heads.length + 1) (c := c2) 11 [2, 3] rfl (allV_map_v _) rfl rfl rfl hnh hc2 (by rw [hnh]; omega) fun Fa hsa hHa _ => ?_
          refine VS.freezeA (n := c.books.length + 1) (c := c3) (cs := (bs ++ [((none, nextB c, 0) : Bk)]).map Bk.v) 13 [2, 3] rfl (by simp only [frzL_v]; exact allV_map_v _) rfl rfl rfl (by rw [List.length_map, List.length_append, hbl, Nat.mul_one]; rfl) hc3 (by rw [List.length_map, List.length_append]; exact Nat.succ_pos _) fun Fb hsb hB0 _ => VS.id ?_
          refine ⟨_, rfl, ⟨pk, lcw - (takenL c).length, some ⟨b2, 0, none⟩, c2, some ⟨b3, 0, none⟩, c3⟩, by simp only [Clerk.v, List.length_append, hdl]; rfl, hpk _ (SlAt.sub' (hsa.trans hsb) hswG).frow, by simp only [hdl]; omega, (SlAt.sub' hsb hHa).frow, by rw [List.length_append]; exact hc2, by rw [List.length_append]; exact hc3, bs ++ [(none, nextB c, 0)], by rw [List.map_append, hbs]; rfl, hB0.frow, fun s hs => ?_⟩
          rcases List.mem_append.1 hs with hs | hs
          · exact BkS.at (SlAt.sub' (hsa.trans hsb) (hBsG s hs))
          · rw [List.mem_singleton.1 hs]; exact ⟨trivial, by show Frow _ none ((nextB c).flatMap Entry.row); rw [List.eq_nil_of_length_eq_zero he]; exact frow_nil _ _⟩
      · rw [Nat.zero_add (nextB c).length]
        rw [Nat.zero_add (nextB c).length] at hc6
        (refine run ?_; repeat intro b)
        refine s_br (Hp.sub.refl _) trivial ?_
        refine s_two 1 4 (by kernel_rfl) rfl rfl rfl ?_ ?_
        · (refine run ?_; repeat intro b)
          refine s_br (Hp.sub.refl _) trivial ?_
          refine s_one 4 (by kernel_rfl) rfl rfl ?_
          (refine run ?_; repeat intro b)
          refine s_br (Hp.sub.refl _) trivial ?_
          refine s_one 5 (by kernel_rfl) rfl rfl ?_
          refine s_appR (news := [EV.v (.slice (some ⟨be, 0, none⟩) (nextB c).length c6)]) rfl rfl rfl rfl rfl rfl rfl rfl (src_row rfl rfl) (fun e he => by rw [List.mem_singleton.1 he]; exact ⟨rfl, _, rfl⟩) (fun h => by cases h) hcb rfl (by rw [List.length_map, List.length_map, hbl, Nat.mul_one]; exact Nat.le_refl _) (by show _ * 24 ≤ _; omega) (fun h => by cases h) (fun _ b3 c3 hc3 => ?_)
          have hcb3 : ((bs.map Bk.v).map EV.v).take (c.books.length * 1) ++ [EV.v (.slice (some ⟨be, 0, none⟩) (nextB c).length c6)] = ((bs ++ [((some ⟨be, 0, none⟩, nextB c, c6) : Bk)]).map Bk.v).map EV.v := by
            rw [List.take_of_length_le (by rw [List.length_map, List.length_map, hbl, Nat.mul_one]; exact Nat.le_refl _)]
            simp [List.map_append]
          rw [hcb3]
          (refine run ?_; repeat intro b)
          refine s_br (Hp.sub.refl _) trivial ?_
          refine s_firsts [6] (f' := 1) (by kernel_rfl) rfl rfl rfl ?_
          (refine run ?_; repeat intro b)
          refine s_one 7 (by kernel_rfl) rfl rfl ?_
          (refine run ?_; repeat intro b)
          refine s_br (Hp.sub.refl _) trivial ?_
          refine s_stop (by kernel_rfl) ?_
          (refine run ?_; repeat intro b)
          refine s_retG ?_
          refine VS.freezeA (n := (nextB c).length) (c := c6) (cs := (nextB c).flatMap Entry.row) 12 [2, 3] rfl (allV_map_v _) rfl rfl rfl (flat_len entry_row _) hc6 (by rw [flat_len entry_row]; exact Nat.mul_pos hpos (by decide)) fun Fz hsz hIz _ => ?_
          refine VS.freezeA (n := c.heads.length + 1) (c := c2) (cs := (c.heads ++ [nextHd c]).flatMap Head.row) 11 [2, 3] rfl (by simp only [frzL_v]; exact allV_map_v _) rfl rfl rfl hnh hc2 (by rw [hnh]; omega) fun Fa hsa hHa _ => ?_
          refine VS.freezeA (n := c.books.length + 1) (c := c3) (cs := (bs ++ [((some ⟨be, 0, none⟩, nextB c, c6) : Bk)]).map Bk.v) 14 [2, 3] rfl (by simp only [frzL_v]; exact allV_map_v _) rfl rfl rfl (by rw [List.length_map, List.length_append, hbl, Nat.mul_one]; rfl) hc3 (by rw [List.length_map, List.length_append]; exact Nat.succ_pos _) fun Fb hsb hB0 _ => VS.id ?_
          refine ⟨_, rfl, ⟨pk, lcw - (takenL c).length, some ⟨b2, 0, none⟩, c2, some ⟨b3, 0, none⟩, c3⟩, by simp only [Clerk.v, List.length_append, hdl]; rfl, hpk _ (SlAt.sub' (hsz.trans (hsa.trans hsb)) hswG).frow, by simp only [hdl]; omega, (SlAt.sub' hsb hHa).frow, by rw [List.length_append]; exact hc2, by rw [List.length_append]; exact hc3, bs ++ [(some ⟨be, 0, none⟩, nextB c, c6)], by rw [List.map_append, hbs]; rfl, hB0.frow, fun s hs => ?_⟩
          rcases List.mem_append.1 hs with hs | hs
          · exact BkS.at (SlAt.sub' (hsz.trans (hsa.trans hsb)) (hBsG s hs))
          · rw [List.mem_singleton.1 hs]; exact ⟨trivial, (SlAt.sub' (hsa.trans hsb) hIz).frow⟩
        · (refine run ?_; repeat intro b)
          refine s_br (Hp.sub.refl _) trivial ?_
          refine s_one 1 (by kernel_rfl) rfl rfl ?_
          (refine run ?_; repeat intro b)
          refine s_br (Hp.sub.refl _) trivial ?_
          refine s_one 5 (by kernel_rfl) rfl rfl ?_
          refine s_appR (news := [EV.v (.slice (some ⟨be, 0, none⟩) (nextB c).length c6)]) rfl rfl rfl rfl rfl rfl rfl rfl (src_row rfl rfl) (fun e he => by rw [List.mem_singleton.1 he]; exact ⟨rfl, _, rfl⟩) (fun h => by cases h) hcb rfl (by rw [List.length_map, List.length_map, hbl, Nat.mul_one]; exact Nat.le_refl _) (by show _ * 24 ≤ _; omega) (fun h => by cases h) (fun _ b3 c3 hc3 => ?_)
          have hcb3 : ((bs.map Bk.v).map EV.v).take (c.books.length * 1) ++ [EV.v (.slice (some ⟨be, 0, none⟩) (nextB c).length c6)] = ((bs ++ [((some ⟨be, 0, none⟩, nextB c, c6) : Bk)]).map Bk.v).map EV.v := by
            rw [List.take_of_length_le (by rw [List.length_map, List.length_map, hbl, Nat.mul_one]; exact Nat.le_refl _)]
            simp [List.map_append]
          rw [hcb3]
          (refine run ?_; repeat intro b)
          refine s_br (Hp.sub.refl _) trivial ?_
          refine s_firsts [6] (f' := 1) (by kernel_rfl) rfl rfl rfl ?_
          (refine run ?_; repeat intro b)
          refine s_one 7 (by kernel_rfl) rfl rfl ?_
          (refine run ?_; repeat intro b)
          refine s_br (Hp.sub.refl _) trivial ?_
          refine s_stop (by kernel_rfl) ?_
          (refine run ?_; repeat intro b)
          refine s_retG ?_
          refine VS.freezeA (n := (nextB c).length) (c := c6) (cs := (nextB c).flatMap Entry.row) 12 [2, 3] rfl (allV_map_v _) rfl rfl rfl (flat_len entry_row _) hc6 (by rw [flat_len entry_row]; exact Nat.mul_pos hpos (by decide)) fun Fz hsz hIz _ => ?_
          refine VS.freezeA (n := c.heads.length + 1) (c := c2) (cs := (c.heads ++ [nextHd c]).flatMap Head.row) 11 [2, 3] rfl (by simp only [frzL_v]; exact allV_map_v _) rfl rfl rfl hnh hc2 (by rw [hnh]; omega) fun Fa hsa hHa _ => ?_
          refine VS.freezeA (n := c.books.length + 1) (c := c3) (cs := (bs ++ [((some ⟨be, 0, none⟩, nextB c, c6) : Bk)]).map Bk.v) 14 [2, 3] rfl (by simp only [frzL_v]; exact allV_map_v _) rfl rfl rfl (by rw [List.length_map, List.length_append, hbl, Nat.mul_one]; rfl) hc3 (by rw [List.length_map, List.length_append]; exact Nat.succ_pos _) fun Fb hsb hB0 _ => VS.id ?_
          refine ⟨_, rfl, ⟨pk, lcw - (takenL c).length, some ⟨b2, 0, none⟩, c2, some ⟨b3, 0, none⟩, c3⟩, by simp only [Clerk.v, List.length_append, hdl]; rfl, hpk _ (SlAt.sub' (hsz.trans (hsa.trans hsb)) hswG).frow, by simp only [hdl]; omega, (SlAt.sub' hsb hHa).frow, by rw [List.length_append]; exact hc2, by rw [List.length_append]; exact hc3, bs ++ [(some ⟨be, 0, none⟩, nextB c, c6)], by rw [List.map_append, hbs]; rfl, hB0.frow, fun s hs => ?_⟩
          rcases List.mem_append.1 hs with hs | hs
          · exact BkS.at (SlAt.sub' (hsz.trans (hsa.trans hsb)) (hBsG s hs))
          · rw [List.mem_singleton.1 hs]; exact ⟨trivial, (SlAt.sub' (hsa.trans hsb) hIz).frow⟩
  · refine s_regiona [9] (by kernel_rfl) ?_
    refine s_firsts [0, 2, 3, 4, 5, 6, 7, 8, 9] (f' := 7) (by kernel_rfl) rfl rfl rfl ?_
    (refine run ?_; repeat intro b)
    rw [wrap_i64 (n := hl0.epoch + 1) (by omega) (by omega)]
    refine s_plain _ rfl rfl rfl bd51 rfl (prefixmark_ok (nextB c) [] l0 w0 hf4.frow) ?_
    (refine run ?_; repeat intro b)
    refine s_plain _ rfl rfl rfl bd77 rfl (refheadmark_ok hl0 wlh G) ?_
    (refine run ?_; repeat intro b)
    refine s_two 1 10 (by kernel_rfl) rfl rfl rfl ?_ ?_
    · (refine run ?_; repeat intro b)
      refine s_br (Hp.sub.refl _) ⟨⟨rfl, rfl, rfl, rfl, rfl, trivial⟩, trivial⟩ ?_
      refine s_one 10 (by kernel_rfl) rfl rfl ?_
      (refine run ?_; repeat intro b)
      refine s_br (Hp.sub.refl _) ⟨⟨rfl, rfl, rfl, rfl, rfl, trivial⟩, trivial⟩ ?_
      refine s_firsts [11] (f' := 4) (by kernel_rfl) rfl rfl rfl ?_
      (refine run ?_; repeat intro b)
      refine s_one 12 (by kernel_rfl) rfl rfl ?_
      (refine run ?_; repeat intro b)
      refine s_br (Hp.sub.refl _) ⟨⟨rfl, rfl, rfl, rfl, rfl, trivial⟩, trivial⟩ ?_
      refine s_one 13 (by kernel_rfl) rfl rfl ?_
      refine s_appR (news := (⟨hl0.epoch + 1, lvlN (nextB c) [], hl0.mark, c.now + 1⟩ : Head).row.map EV.v) rfl rfl rfl rfl rfl rfl rfl rfl (src_row rfl rfl) (one_head _ ⟨hl0.epoch + 1, lvlN (nextB c) [], hl0.mark, c.now + 1⟩) (fun h => by cases h) hch rfl (by rw [List.length_map, flat_len head_row]; exact Nat.le_refl _) (by show _ * 32 ≤ _; omega) (fun h => by cases h) (fun _ b2 c2 hc2 => ?_)
      rw [hcells]
      (refine run ?_; repeat intro b)
      refine s_br (Hp.sub.refl _) ⟨⟨rfl, rfl, rfl, rfl, rfl, trivial⟩, trivial⟩ ?_
      refine s_firsts [14] (f' := 1) (by kernel_rfl) rfl rfl rfl ?_
      (refine run ?_; repeat intro b)
      refine s_one 15 (by kernel_rfl) rfl rfl ?_
      (refine run ?_; repeat intro b)
      refine s_br (Hp.sub.refl _) ⟨⟨rfl, rfl, rfl, rfl, rfl, trivial⟩, trivial⟩ ?_
      refine s_stop (by kernel_rfl) ?_
      exact kn _ (VS.dropR [10, 9, 0] rfl (VS.keepN [2, 4, 5] rfl ⟨(b2, c2), hc2, rfl⟩))
    · (refine run ?_; repeat intro b)
      refine s_br (Hp.sub.refl _) ⟨⟨rfl, rfl, rfl, rfl, rfl, trivial⟩, trivial⟩ ?_
      refine s_firsts [11] (f' := 5) (by kernel_rfl) rfl rfl rfl ?_
      (refine run ?_; repeat intro b)
      refine s_two 1 12 (by kernel_rfl) rfl rfl rfl ?_ ?_
      · (refine run ?_; repeat intro b)
        refine s_br (Hp.sub.refl _) ⟨⟨rfl, rfl, rfl, rfl, rfl, trivial⟩, trivial⟩ ?_
        refine s_one 12 (by kernel_rfl) rfl rfl ?_
        (refine run ?_; repeat intro b)
        refine s_br (Hp.sub.refl _) ⟨⟨rfl, rfl, rfl, rfl, rfl, trivial⟩, trivial⟩ ?_
        refine s_one 13 (by kernel_rfl) rfl rfl ?_
        refine s_appR (news := (⟨hl0.epoch + 1, lvlN (nextB c) [], hl0.mark, c.now + 1⟩ : Head).row.map EV.v) rfl rfl rfl rfl rfl rfl rfl rfl (src_row rfl rfl) (one_head _ ⟨hl0.epoch + 1, lvlN (nextB c) [], hl0.mark, c.now + 1⟩) (fun h => by cases h) hch rfl (by rw [List.length_map, flat_len head_row]; exact Nat.le_refl _) (by show _ * 32 ≤ _; omega) (fun h => by cases h) (fun _ b2 c2 hc2 => ?_)
        rw [hcells]
        (refine run ?_; repeat intro b)
        refine s_br (Hp.sub.refl _) ⟨⟨rfl, rfl, rfl, rfl, rfl, trivial⟩, trivial⟩ ?_
        refine s_firsts [14] (f' := 1) (by kernel_rfl) rfl rfl rfl ?_
        (refine run ?_; repeat intro b)
        refine s_one 15 (by kernel_rfl) rfl rfl ?_
        (refine run ?_; repeat intro b)
        refine s_br (Hp.sub.refl _) ⟨⟨rfl, rfl, rfl, rfl, rfl, trivial⟩, trivial⟩ ?_
        refine s_stop (by kernel_rfl) ?_
        exact kn _ (VS.dropR [10, 9, 0] rfl (VS.keepN [2, 4, 5] rfl ⟨(b2, c2), hc2, rfl⟩))
      · (refine run ?_; repeat intro b)
        refine s_br (Hp.sub.refl _) ⟨⟨rfl, rfl, rfl, rfl, rfl, trivial⟩, trivial⟩ ?_
        refine s_one 1 (by kernel_rfl) rfl rfl ?_
        (refine run ?_; repeat intro b)
        refine s_br (Hp.sub.refl _) ⟨⟨rfl, rfl, rfl, rfl, rfl, trivial⟩, trivial⟩ ?_
        refine s_one 13 (by kernel_rfl) rfl rfl ?_
        refine s_appR (news := (⟨hl0.epoch + 1, lvlN (nextB c) [], hl0.mark, c.now + 1⟩ : Head).row.map EV.v) rfl rfl rfl rfl rfl rfl rfl rfl (src_row rfl rfl) (one_head _ ⟨hl0.epoch + 1, lvlN (nextB c) [], hl0.mark, c.now + 1⟩) (fun h => by cases h) hch rfl (by rw [List.length_map, flat_len head_row]; exact Nat.le_refl _) (by show _ * 32 ≤ _; omega) (fun h => by cases h) (fun _ b2 c2 hc2 => ?_)
        rw [hcells]
        (refine run ?_; repeat intro b)
        refine s_br (Hp.sub.refl _) ⟨⟨rfl, rfl, rfl, rfl, rfl, trivial⟩, trivial⟩ ?_
        refine s_firsts [14] (f' := 1) (by kernel_rfl) rfl rfl rfl ?_
        (refine run ?_; repeat intro b)
        refine s_one 15 (by kernel_rfl) rfl rfl ?_
        (refine run ?_; repeat intro b)
        refine s_br (Hp.sub.refl _) ⟨⟨rfl, rfl, rfl, rfl, rfl, trivial⟩, trivial⟩ ?_
        refine s_stop (by kernel_rfl) ?_
        exact kn _ (VS.dropR [10, 9, 0] rfl (VS.keepN [2, 4, 5] rfl ⟨(b2, c2), hc2, rfl⟩))
end Go.Proofs.YthkkgphjjmhglaaGreatDoor
