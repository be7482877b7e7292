/-
The reference's ClerkAsk: the walk.
-/
import Derived.Test.YthkkgphjjmhglaaGreatDoorClerkR3
import Derived.Test.YthkkgphjjmhglaaGreatDoorSetClerkR2
import Derived.Test.YthkkgphjjmhglaaGreatDoorSetClerkTime
namespace Go.Proofs.YthkkgphjjmhglaaGreatDoor
set_option linter.unusedVariables false
set_option linter.unusedSimpArgs false
open Go.TR
/-- A row of another type stays where an append writes. -/
theorem SlAt.plus {F : Hp} {e e' : TypeId} {size size' : Nat} {p q : Option Addr} {n c n' c' : Nat} {cs cs' : List Value} (h : SlAt F e size p n c cs) (hq : SlAt F e' size' q n' c' cs') (hne : e ≠ e') {b : Nat} {o : Obj} (hb : q = some ⟨b, 0, none⟩ ∨ F b = none) : SlAt (F.plus b o) e size p n c cs := by
  refine SlAt.other h fun b2 hp e2 => ?_
  subst e2
  obtain ⟨_, _, h3⟩ := h
  rcases h3 with ⟨h3, _, _⟩ | ⟨b3, cur, h4, h5, _⟩
  · rw [h3] at hp; cases hp
  · rw [hp] at h4
    obtain rfl : b2 = b3 := by cases h4; rfl
    rcases hb with hb | hb
    · obtain ⟨_, _, g3⟩ := hq
      rcases g3 with ⟨g3, _, _⟩ | ⟨b4, cur4, g4, g5, _⟩
      · rw [g3] at hb; cases hb
      · rw [hb] at g4
        obtain rfl : b2 = b4 := by cases g4; rfl
        rw [h5] at g5
        cases g5
        exact hne rfl
    · rw [h5] at hb; cases hb
theorem tm_bound {now every : Int} (he : 1 ≤ every) (h1 : every ≤ 1000) (h0 : 0 ≤ now) (h2 : now ≤ 1000000000) : ∀ j : Nat, 0 ≤ tmN now every j ∧ tmN now every j ≤ 1000000000 + (j : Int) * 1000
  | 0 => by unfold tmN; simp; omega
  | j + 1 => by
    have := tm_bound he h1 h0 h2 j
    have h3 := tm_le he h0 j (now := now)
    omega
theorem own_lt (bA : Nat) (bs : List Bk) (hs : List Head) (bh bb n m : Nat) : ∀ id r, lkR [(5, (⟨some bb, (bs.map Bk.v).map .v, 32, n⟩ : Blk)), (4, ⟨some bh, (hs.flatMap Head.row).map .v, 31, m⟩), (3, Go.TR.mark bA)] id = some r → id < 6 ∧ ∀ e ∈ r.cells, EV.lt 6 e := fun id r hr => by
  rw [lkR_cons] at hr
  split at hr
  · cases hr; exact ⟨by omega, fun e he => vals_lt _ e he⟩
  · rw [lkR_cons] at hr
    split at hr
    · cases hr; exact ⟨by omega, fun e he => vals_lt _ e he⟩
    · rw [lkR_cons] at hr
      split at hr
      · cases hr; exact ⟨by omega, fun e he => by rw [List.mem_singleton.1 he]; trivial⟩
      · simp [lkR] at hr
theorem shift_vs (n : Nat) (l : List Value) : (l.map EV.v).map (shiftE n) = l.map EV.v := by
  rw [List.map_map]; rfl
theorem shift_own (n bA : Nat) (bs : List Bk) (hs : List Head) (bh bb i j : Nat) : shiftR n [(5, (⟨some bb, (bs.map Bk.v).map .v, 32, i⟩ : Blk)), (4, ⟨some bh, (hs.flatMap Head.row).map .v, 31, j⟩), (3, Go.TR.mark bA)] = [(n + 5, (⟨some bb, (bs.map Bk.v).map .v, 32, i⟩ : Blk)), (n + 4, ⟨some bh, (hs.flatMap Head.row).map .v, 31, j⟩), (n + 3, Go.TR.mark bA)] := by
  unfold shiftR shiftB
  simp only [List.map_cons, List.map_nil]
  rw [shift_vs, shift_vs]
  rfl
theorem tmN_zero (now every : Int) : tmN now every 0 = now := by unfold tmN; rw [if_pos rfl]
attribute [local irreducible] vc vcOps seqK blockK loopK retK retG retI loopV Plain CallOK CallIn bodied VS vcAny dropG backK brK loopPK IntKind.wrap
attribute [local irreducible] bookFault lvlN rootsF lastB lastH clerkF queueFault chainF booksF namesN askFault closedB tmN Hp.plus
set_option maxRecDepth 100000
set_option maxHeartbeats 4000000
theorem refask_ok (c : Clerk) (l : CLay) (x : Ask) (hG : Good c) (hw : c.wf) (hx : x.wf) {F : Hp} (ha : c.at F l) : CallF Tryz.prog F 24 [c.v l, x.v] (fun y F' => ∃ l', y = triple ((askC c x).v l') (i64 (askT c x)) (i64 (askE c x)) ∧ (askC c x).at F' l') := by
  have h0 := hG.fault
  have hS := hG.small
  obtain ⟨q1, q2, q3, _⟩ := queue_zero hG.queue
  obtain ⟨t1, t2, t3, t4, t5, t6⟩ := hG.times
  have hlen := hG.lens
  have hsp := askE_split (a := x) h0
  refine CallOK.drop (call_vc (N := 74) (rv := [.cell 4 28, .tmp 5, .tmp 6]) tbok mixed Tryz.func24 rfl rfl rfl rfl rfl ?_)
  (refine run ?_; repeat intro b)
  rename_i bc ba
  revert b; intro br
  refine s_plain _ rfl rfl rfl bd32 rfl (askfault_ok x.name x.value hx.name F) ?_
  (refine run ?_; repeat intro b)
  refine s_if (decide (askFault x.name x.value ≠ 0)) ?_ (fun f0 => ?_) (fun f0 => ?_)
  · refine congrArg (fun b => some (EV.v (.bool b))) ?_
    rw [Bool.eq_iff_iff]; simp
  · have f0 := of_decide_eq_true f0
    rw [if_pos f0] at hsp
    obtain ⟨e1, e2⟩ := askC_bad (c := c) (a := x) (by rw [hsp]; exact f0)
    rw [hsp, e1, e2]
    (refine run ?_; repeat intro b)
    exact s_retG (VS.id ⟨_, rfl, CLay.nil, rfl, Clerk.at_none _⟩)
  have f0 : askFault x.name x.value = 0 := by have := of_decide_eq_false f0; omega
  have hgn := (ask_good f0).1
  have hne : x.name ≠ [] := fun e => by rw [e] at hgn; exact absurd hgn (by decide)
  have hmo : moreL x.name = [x.name] := by unfold moreL; rw [if_neg hne]
  have hno := namesof_ok c l x.name hw (by omega) (by rw [hmo]; exact names_len hS (by omega) [x.name] (Nat.le_refl 1)) hx.name ha
  rw [hmo] at hno
  rw [f0, if_neg (by decide)] at hsp
  (refine run ?_; repeat intro b)
  refine s_plain _ rfl rfl rfl bd75 rfl (refclosed_ok c l F) ?_
  (refine run ?_; repeat intro b)
  refine s_if (closedB c) rfl (fun h1 => ?_) (fun h1 => ?_)
  · rw [if_pos h1] at hsp
    obtain ⟨e1, e2⟩ := askC_bad (c := c) (a := x) (by rw [hsp]; decide)
    rw [hsp, e1, e2]
    (refine run ?_; repeat intro b)
    exact s_retG (VS.id ⟨_, rfl, CLay.nil, rfl, Clerk.at_none _⟩)
  rw [if_neg (by rw [h1]; decide)] at hsp
  (refine run ?_; repeat intro b)
  refine s_gplain _ rfl rfl rfl rfl bd52 rfl rfl (fun _ => hno) ?_
  (refine run ?_; repeat intro b)
  refine s_if (decide ((c.queue.wait.length : Int) = c.queue.most ∨ 24 < namesN c [x.name])) ?_ (fun h2 => ?_) (fun h2 => ?_)
  · refine congrArg (fun b => some (EV.v (.bool b))) ?_
    rw [bpick_or, Bool.eq_iff_iff]; simp
    omega
  · rw [if_pos (of_decide_eq_true h2)] at hsp
    obtain ⟨e1, e2⟩ := askC_bad (c := c) (a := x) (by rw [hsp]; decide)
    rw [hsp, e1, e2]
    (refine run ?_; repeat intro b)
    exact s_retG (VS.id ⟨_, rfl, CLay.nil, rfl, Clerk.at_none _⟩)
  have h2 := of_decide_eq_false h2
  rw [if_neg h2] at hsp
  obtain ⟨e1, e2⟩ := askC_good (c := c) (a := x) hsp
  rw [hsp, e1, e2]
  (refine run ?_; repeat intro b)
  refine s_call rfl rfl rfl bd76 rfl (ownclerk_ok c l hS (by omega) (by omega) ha) ?_
  rintro _ F1 _ hF1 ⟨l', bA, bh, bb, bs, rfl, hO, rfl⟩
  refine ⟨6, .v (c.v l'), own_lt bA bs c.heads bh bb _ _, rfl, ?_⟩
  obtain ⟨lw, lcw, lh, lch, lb, lcb⟩ := l'
  obtain ⟨hsw, hyw, rfl, hch, rfl, hcb, hbs, hBs0⟩ := hO
  simp only at hsw hyw hch hcb
  rw [shift_own]
  have hbl := bks_len hbs
  refine s_shift (VS.freezeA (n := c.heads.length) (c := lch) 7 [2, 3, 4, 40] rfl (allV_map_v _) rfl rfl rfl (flat_len head_row _) hch (by rw [flat_len head_row]; omega) fun Fa hsa hHa _ => ?_)
  refine VS.freezeA (n := c.books.length) (c := lcb) (cs := bs.map Bk.v) 8 [2, 3, 4, 40] rfl (by rw [frzL_v]; exact allV_map_v _) rfl rfl rfl (by rw [List.length_map, hbl, Nat.mul_one]) hcb (by rw [List.length_map, hbl]; omega) fun Fb hsb hB0 _ => VS.id ?_
  have hH0 := SlAt.sub' hsb hHa
  have hsab := hsa.trans hsb
  replace hsw := SlAt.sub' hsab hsw
  replace hBs0 : ∀ s ∈ bs, BkS Fb s := fun s hs => SlAt.sub' hsab (hBs0 s hs)
  (refine run ?_; repeat intro b)
  rename_i bo
  have hfx : ((c.queue.wait ++ [x]).flatMap Ask.cells) = c.queue.wait.flatMap Ask.cells ++ x.cells := flat_snoc _ _
  by_cases hlw : lw = none
  · subst hlw
    obtain ⟨hn0, hc0⟩ : c.queue.wait.length = 0 ∧ lcw = 0 := by
      rcases hsw.2.2 with ⟨_, h4, h5⟩ | ⟨b4, _, h4, _⟩
      · exact ⟨h4, h5⟩
      · cases h4
    obtain rfl : lcw = c.queue.wait.length := by omega
    refine s_appV (c.queue.wait.flatMap Ask.cells) rfl rfl rfl rfl rfl rfl (flat_len ask_cells _) hsw.frow (src_row rfl rfl) (one_ask _ x) (by show _ * 48 ≤ _; omega) (fun h => by cases h) (fun _ b2 c2 hc2 => ?_)
    have hcells : (c.queue.wait.flatMap Ask.cells).map EV.v ++ x.cells.map EV.v = ((c.queue.wait ++ [x]).flatMap Ask.cells).map EV.v := by rw [hfx, List.map_append]
    refine s_shift (VS.freeze 11 [2, 3, 4, 8, 46] rfl ((congrArg (allV _) hcells).trans (allV_map_v _)) rfl rfl fun F2 hs2 hW => VS.id ?_)
    have hWc := hc2
    have hH := SlAt.sub' hs2 hH0
    have hB := SlAt.sub' hs2 hB0
    have hBs : ∀ s ∈ bs, BkS F2 s := fun s hs => SlAt.sub' hs2 (hBs0 s hs)
    (refine run ?_; repeat intro b)
    refine s_regiond (by kernel_rfl) ?_
    (refine run ?_; repeat intro b)
    refine s_loopP (fun q : Nat × Int => 0 ≤ q.2 ∧ (q.1 : Int) * c.batch + q.2 = (c.queue.wait.length : Int))
      (fun q => ⟨[(9, .v (i64 (tmN c.now c.every q.1))), (10, .v (i64 q.2)), (2, .loc 0 0), (4, .loc 2 0), (8, .loc 9 0)], F2, [(9, ⟨some bo, [.v (i64 c.queue.most), .v (.slice (some ⟨b2, 0, none⟩) (c.queue.wait.length + 1) c2), .v (i64 c.batch), .v (i64 c.every), .v (i64 c.now), .v (.slice (some ⟨bh, 0, none⟩) c.heads.length lch), .v (.slice (some ⟨bb, 0, none⟩) c.books.length lcb)], 28, 7⟩),
        (2, ⟨some br, [.v (i64 0), .v (.slice none 0 0), .v (i64 0), .v (i64 0), .v (i64 0), .v (.slice none 0 0), .v (.slice none 0 0)], 28, 7⟩),
        (0, ⟨some bc, [.v (i64 c.queue.most), .v (.slice l.w c.queue.wait.length l.cw), .v (i64 c.batch), .v (i64 c.every), .v (i64 c.now), .v (.slice l.h c.heads.length l.ch), .v (.slice l.b c.books.length l.cb)], 28, 7⟩)], 12⟩) (fun q => q.2.toNat) (0, (c.queue.wait.length : Int)) ⟨by simp only; omega, by simp⟩ (by rw [tmN_zero]; exact VS.dropR [10, 6, 1] rfl (VS.keepN [9, 10, 2, 4, 8] rfl rfl)) ?_
    rintro ⟨j, L⟩ ⟨hL0, hL⟩
    dsimp only at hL0 hL ⊢
    have hj1 : (j : Int) * 1 ≤ (j : Int) * c.batch := Int.mul_le_mul_of_nonneg_left t1 (by omega)
    have hjb := tm_bound t3 t4 t5 t6 j
    have hjb1 := tm_bound t3 t4 t5 t6 (j + 1)
    obtain ⟨hle1, hle2⟩ := tm_le t3 t5 j
    have hmid := fun x => tm_mid (now := c.now) (every := c.every) (x := x) t3 (j := j)
    have hlast := tm_last (w := (c.queue.wait.length : Int)) t5 t3 t1 (by omega) (j := j)
    have hjw : (j : Int) ≤ 30 := by omega
    have hjs : ((j + 1 : Nat) : Int) = (j : Int) + 1 := by omega
    rw [hjs] at hjb1
    generalize hT : tmN c.now c.every j = T at *
    generalize hT1 : tmN c.now c.every (j + 1) = T1 at *
    (refine run ?_; repeat intro b)
    rw [wrap_i64 (n := T + 1) (by omega) (by omega)]
    (refine run ?_; repeat intro b)
    refine s_loopP (fun x : Int => T < x ∧ x ≤ T1)
      (fun x => ⟨[(9, .v (i64 x)), (10, .v (i64 L)), (2, .loc 0 0), (4, .loc 2 0), (8, .loc 9 0)], F2, [(9, ⟨some bo, [.v (i64 c.queue.most), .v (.slice (some ⟨b2, 0, none⟩) (c.queue.wait.length + 1) c2), .v (i64 c.batch), .v (i64 c.every), .v (i64 c.now), .v (.slice (some ⟨bh, 0, none⟩) c.heads.length lch), .v (.slice (some ⟨bb, 0, none⟩) c.books.length lcb)], 28, 7⟩),
        (2, ⟨some br, [.v (i64 0), .v (.slice none 0 0), .v (i64 0), .v (i64 0), .v (i64 0), .v (.slice none 0 0), .v (.slice none 0 0)], 28, 7⟩),
        (0, ⟨some bc, [.v (i64 c.queue.most), .v (.slice l.w c.queue.wait.length l.cw), .v (i64 c.batch), .v (i64 c.every), .v (i64 c.now), .v (.slice l.h c.heads.length l.ch), .v (.slice l.b c.books.length l.cb)], 28, 7⟩)], 12⟩) (fun x => (T1 - x).toNat) (T + 1) ⟨by omega, by omega⟩ (VS.keepN [9, 10, 2, 4, 8] rfl rfl) ?_
    rintro x ⟨hx1, hx2⟩
    dsimp only
    have hm := hmid x hx1 hx2
    (refine run ?_; repeat intro b)
    refine s_pureO rfl rfl rfl (by omega) ?_
    rw [tmod_pos (by omega)]
    (refine run ?_; repeat intro b)
    refine s_if (decide (x % c.every ≠ 0)) ?_ (fun g => ?_) (fun g => ?_)
    · refine congrArg (fun b => some (EV.v (.bool b))) ?_
      rw [Bool.eq_iff_iff]; simp
    · have g := of_decide_eq_true g
      have hxn : x ≠ T1 := fun e => g (hm.2 e)
      (refine run ?_; repeat intro b)
      rw [wrap_i64 (n := x + 1) (by omega) (by omega)]
      exact s_loopPn (x + 1) ⟨by omega, by omega⟩ (by omega) (VS.keepN [9, 10, 2, 4, 8] rfl rfl)
    have g : x % c.every = 0 := by have := of_decide_eq_false g; omega
    obtain rfl := hm.1 g
    (refine run ?_; repeat intro b)
    refine s_if (decide (L < c.batch)) rfl (fun g2 => ?_) (fun g2 => ?_)
    · have g2 := of_decide_eq_true g2
      rw [← hlast (by omega) (by omega)]
      (refine run ?_; repeat intro b)
      exact s_retG (VS.id ⟨_, rfl, ⟨(some ⟨b2, 0, none⟩), c2, some ⟨bh, 0, none⟩, lch, some ⟨bb, 0, none⟩, lcb⟩, (by simp only [Clerk.v, List.length_append]; rfl), hW, (by rw [List.length_append]; exact hWc), hH.frow, hH.2.1, hB.2.1, bs, hbs, hB.frow, fun s hs => (hBs s hs).at⟩)
    · have g2 := of_decide_eq_false g2
      have hjn : ((j + 1 : Nat) : Int) * c.batch = (j : Int) * c.batch + c.batch := by rw [hjs, Int.add_mul, Int.one_mul]
      (refine run ?_; repeat intro b)
      rw [wrap_i64 (n := L - c.batch) (by omega) (by omega), ← hT1]
      exact s_loopPn (j + 1, L - c.batch) ⟨by simp only; omega, by simp only; rw [hjn]; omega⟩ (by simp only; omega) (VS.keepN [9, 10, 2, 4, 8] rfl rfl)
  · obtain ⟨b1, cur1, e3, e4, _⟩ : ∃ b cur, lw = some ⟨b, 0, none⟩ ∧ Fb b = some (.cells cur 55 (0, 0)) ∧ True := by
      rcases hsw.2.2 with ⟨h4, _⟩ | ⟨b4, cur, h4, h5, _⟩
      · exact absurd h4 hlw
      · exact ⟨b4, cur, h4, h5, trivial⟩
    refine s_appY (m := 1) (b0 := bA) (id := 6) (vs := x.cells) tbok rfl rfl rfl rfl rfl rfl (src_row rfl rfl) (one_ask _ x) (by decide) rfl (by show _ * 48 ≤ _; omega) rfl (mark_at bA) e4 (hyw _ e3) hsw hyw (fun b2 c2 o2 hb2 hs2 => ?_)
    have hb2' : lw = some ⟨b2, 0, none⟩ ∨ Fb b2 = none := by
      rcases hb2 with h | h
      · exact .inl h
      · exact .inr h.1
    have hW : Frow (Fb.plus b2 o2) (some ⟨b2, 0, none⟩) ((c.queue.wait ++ [x]).flatMap Ask.cells) := by rw [hfx]; exact hs2.frow
    have hWc := hs2.2.1
    have hH := SlAt.plus hH0 hsw (by decide) hb2' (o := o2)
    have hB := SlAt.plus hB0 hsw (by decide) hb2' (o := o2)
    have hBs : ∀ s ∈ bs, BkS (Fb.plus b2 o2) s := fun s hs => SlAt.plus (hBs0 s hs) hsw (by decide) hb2' (o := o2)
    (refine run ?_; repeat intro b)
    refine s_regiond (by kernel_rfl) ?_
    (refine run ?_; repeat intro b)
    refine s_loopP (fun q : Nat × Int => 0 ≤ q.2 ∧ (q.1 : Int) * c.batch + q.2 = (c.queue.wait.length : Int))
      (fun q => ⟨[(9, .v (i64 (tmN c.now c.every q.1))), (10, .v (i64 q.2)), (2, .loc 0 0), (4, .loc 2 0), (8, .loc 9 0)], (Fb.plus b2 o2), [(9, ⟨some bo, [.v (i64 c.queue.most), .v (.slice (some ⟨b2, 0, none⟩) (c.queue.wait.length + 1) c2), .v (i64 c.batch), .v (i64 c.every), .v (i64 c.now), .v (.slice (some ⟨bh, 0, none⟩) c.heads.length lch), .v (.slice (some ⟨bb, 0, none⟩) c.books.length lcb)], 28, 7⟩),
        (2, ⟨some br, [.v (i64 0), .v (.slice none 0 0), .v (i64 0), .v (i64 0), .v (i64 0), .v (.slice none 0 0), .v (.slice none 0 0)], 28, 7⟩),
        (0, ⟨some bc, [.v (i64 c.queue.most), .v (.slice l.w c.queue.wait.length l.cw), .v (i64 c.batch), .v (i64 c.every), .v (i64 c.now), .v (.slice l.h c.heads.length l.ch), .v (.slice l.b c.books.length l.cb)], 28, 7⟩)], 11⟩) (fun q => q.2.toNat) (0, (c.queue.wait.length : Int)) ⟨by simp only; omega, by simp⟩ (by rw [tmN_zero]; exact VS.dropR [10, 6, 1] rfl (VS.keepN [9, 10, 2, 4, 8] rfl rfl)) ?_
    rintro ⟨j, L⟩ ⟨hL0, hL⟩
    dsimp only at hL0 hL ⊢
    have hj1 : (j : Int) * 1 ≤ (j : Int) * c.batch := Int.mul_le_mul_of_nonneg_left t1 (by omega)
    have hjb := tm_bound t3 t4 t5 t6 j
    have hjb1 := tm_bound t3 t4 t5 t6 (j + 1)
    obtain ⟨hle1, hle2⟩ := tm_le t3 t5 j
    have hmid := fun x => tm_mid (now := c.now) (every := c.every) (x := x) t3 (j := j)
    have hlast := tm_last (w := (c.queue.wait.length : Int)) t5 t3 t1 (by omega) (j := j)
    have hjw : (j : Int) ≤ 30 := by omega
    have hjs : ((j + 1 : Nat) : Int) = (j : Int) + 1 := by omega
    rw [hjs] at hjb1
    generalize hT : tmN c.now c.every j = T at *
    generalize hT1 : tmN c.now c.every (j + 1) = T1 at *
    (refine run ?_; repeat intro b)
    rw [wrap_i64 (n := T + 1) (by omega) (by omega)]
    (refine run ?_; repeat intro b)
    refine s_loopP (fun x : Int => T < x ∧ x ≤ T1)
      (fun x => ⟨[(9, .v (i64 x)), (10, .v (i64 L)), (2, .loc 0 0), (4, .loc 2 0), (8, .loc 9 0)], (Fb.plus b2 o2), [(9, ⟨some bo, [.v (i64 c.queue.most), .v (.slice (some ⟨b2, 0, none⟩) (c.queue.wait.length + 1) c2), .v (i64 c.batch), .v (i64 c.every), .v (i64 c.now), .v (.slice (some ⟨bh, 0, none⟩) c.heads.length lch), .v (.slice (some ⟨bb, 0, none⟩) c.books.length lcb)], 28, 7⟩),
        (2, ⟨some br, [.v (i64 0), .v (.slice none 0 0), .v (i64 0), .v (i64 0), .v (i64 0), .v (.slice none 0 0), .v (.slice none 0 0)], 28, 7⟩),
        (0, ⟨some bc, [.v (i64 c.queue.most), .v (.slice l.w c.queue.wait.length l.cw), .v (i64 c.batch), .v (i64 c.every), .v (i64 c.now), .v (.slice l.h c.heads.length l.ch), .v (.slice l.b c.books.length l.cb)], 28, 7⟩)], 11⟩) (fun x => (T1 - x).toNat) (T + 1) ⟨by omega, by omega⟩ (VS.keepN [9, 10, 2, 4, 8] rfl rfl) ?_
    rintro x ⟨hx1, hx2⟩
    dsimp only
    have hm := hmid x hx1 hx2
    (refine run ?_; repeat intro b)
    refine s_pureO rfl rfl rfl (by omega) ?_
    rw [tmod_pos (by omega)]
    (refine run ?_; repeat intro b)
    refine s_if (decide (x % c.every ≠ 0)) ?_ (fun g => ?_) (fun g => ?_)
    · refine congrArg (fun b => some (EV.v (.bool b))) ?_
      rw [Bool.eq_iff_iff]; simp
    · have g := of_decide_eq_true g
      have hxn : x ≠ T1 := fun e => g (hm.2 e)
      (refine run ?_; repeat intro b)
      rw [wrap_i64 (n := x + 1) (by omega) (by omega)]
      exact s_loopPn (x + 1) ⟨by omega, by omega⟩ (by omega) (VS.keepN [9, 10, 2, 4, 8] rfl rfl)
    have g : x % c.every = 0 := by have := of_decide_eq_false g; omega
    obtain rfl := hm.1 g
    (refine run ?_; repeat intro b)
    refine s_if (decide (L < c.batch)) rfl (fun g2 => ?_) (fun g2 => ?_)
    · have g2 := of_decide_eq_true g2
      rw [← hlast (by omega) (by omega)]
      (refine run ?_; repeat intro b)
      exact s_retG (VS.id ⟨_, rfl, ⟨(some ⟨b2, 0, none⟩), c2, some ⟨bh, 0, none⟩, lch, some ⟨bb, 0, none⟩, lcb⟩, (by simp only [Clerk.v, List.length_append]; rfl), hW, (by rw [List.length_append]; exact hWc), hH.frow, hH.2.1, hB.2.1, bs, hbs, hB.frow, fun s hs => (hBs s hs).at⟩)
    · have g2 := of_decide_eq_false g2
      have hjn : ((j + 1 : Nat) : Int) * c.batch = (j : Int) * c.batch + c.batch := by rw [hjs, Int.add_mul, Int.one_mul]
      (refine run ?_; repeat intro b)
      rw [wrap_i64 (n := L - c.batch) (by omega) (by omega), ← hT1]
      exact s_loopPn (j + 1, L - c.batch) ⟨by simp only; omega, by simp only; rw [hjn]; omega⟩ (by simp only; omega) (VS.keepN [9, 10, 2, 4, 8] rfl rfl)
end Go.Proofs.YthkkgphjjmhglaaGreatDoor
