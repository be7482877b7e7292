/-
Package proof: Make; tallyrollref.ProofOf: the walks.
-/
import Derived.Test.YthkkgphjjmhglaaGreatDoorSetClerk1
import Derived.Test.YthkkgphjjmhglaaGreatDoorFwN
namespace Go.Proofs.YthkkgphjjmhglaaGreatDoor
set_option linter.unusedVariables false
set_option linter.unusedSimpArgs false
open Go.TR
def flipB (b : UInt8) : UInt8 := if b = 48 then 49 else 48
/-- The prefix beside a path's, at some depth. -/
def sib (p : List UInt8) (k : Nat) : List UInt8 := p.take k ++ [flipB (p.getD k 0)]
def sideN (l : List Entry) (n : List UInt8) (j : Nat) : Nat := lvlN l (sib (pathN n) (15 - j))
def sidesN (l : List Entry) (n : List UInt8) (k : Nat) : List Nat := (List.range k).map (sideN l n)
theorem sidesN_succ (l : List Entry) (n : List UInt8) (k : Nat) : sidesN l n (k + 1) = sidesN l n k ++ [sideN l n k] := by
  unfold sidesN
  rw [List.range_succ, List.map_append]
  rfl
theorem sidesN_len (l : List Entry) (n : List UInt8) (k : Nat) : (sidesN l n k).length = k := by unfold sidesN; rw [List.length_map, List.length_range]
theorem sidesN_zero (l : List Entry) (n : List UInt8) : sidesN l n 0 = [] := rfl
theorem sib_good {n : List UInt8} {k : Nat} (hk : k < 16) : goodPre (sib (pathN n) k) = true := by
  have hb : ∀ x ∈ pathN n, inS [48, 49] x = true := fun x hx => by
    obtain ⟨j, hj, rfl⟩ := List.getElem_of_mem hx
    have h16 := pathN_len n
    have := path_bit n j (by omega)
    rw [List.getD_eq_getElem?_getD, List.getElem?_eq_getElem hj] at this
    rcases this with h | h
    · have h : (pathN n)[j] = 48 := h
      rw [h]; decide
    · have h : (pathN n)[j] = 49 := h
      rw [h]; decide
  unfold goodPre sib
  rw [Bool.and_eq_true, decide_eq_true_eq, List.all_append, Bool.and_eq_true, List.length_append, List.length_take, pathN_len]
  refine ⟨⟨?_, ?_⟩, by simp; omega⟩
  · rw [List.all_eq_true]
    exact fun x hx => hb x (List.mem_of_mem_take hx)
  · unfold flipB
    split <;> decide
/-- The proof that is made. -/
def madeP (l : List Entry) (n : List UInt8) : Prf := ⟨n, grp l (pathN n), sidesN l n 16⟩
def makeE (l : List Entry) (n : List UInt8) : Int := if bookFault l ≠ 0 then bookFault l else if goodName n = true then 0 else 3
def Prf.none : Prf := ⟨[], [], []⟩
def makeP (l : List Entry) (n : List UInt8) : Prf := if makeE l n = 0 then madeP l n else Prf.none
theorem grp_nil (s : List UInt8) : grp [] s = [] := rfl
theorem grp_take {l : List Entry} {s : List UInt8} {k : Nat} (h : k < l.length) : grp (l.take (k + 1)) s = if pathN l[k].name = s then grp (l.take k) s ++ [l[k]] else grp (l.take k) s := by
  rw [List.take_succ_eq_append_getElem h, grp_snoc]
def enV (l : List Entry) : List EV := (l.flatMap Entry.row).map EV.v
theorem enV_nil : enV [] = [] := rfl
theorem enV_len (l : List Entry) : (enV l).length = l.length * 2 := by unfold enV; rw [List.length_map, flat_len entry_row]
theorem enV_snoc (l : List Entry) (x : Entry) : (enV l).take (l.length * 2) ++ x.row.map EV.v = enV (l ++ [x]) := by
  rw [List.take_of_length_le (by rw [enV_len]; exact Nat.le_refl _)]
  unfold enV
  simp
def muV (l : List Nat) : List EV := (l.map mu).map EV.v
theorem muV_nil : muV [] = [] := rfl
theorem muV_len (l : List Nat) : (muV l).length = l.length := by unfold muV; simp
theorem muV_snoc (l : List Nat) (x : Nat) : (muV l).take (l.length * 1) ++ [EV.v (mu x)] = muV (l ++ [x]) := by
  rw [List.take_of_length_le (by rw [muV_len]; omega)]
  unfold muV
  simp
theorem enV_all (l : List Entry) : ∀ e ∈ enV l, ∃ v, e = .v v := all_v _
theorem muV_all (l : List Nat) : ∀ e ∈ muV l, ∃ v, e = .v v := all_v _
theorem run_rune (n : Int) (c : UInt8) (h : Utf8.encode n = mkB [c]) (w : World) : (convert 21 9 (.int .i32 n)).run Tryz.prog w = .ok (S [c]) w := by
  have h1 : Tryz.prog.underlying 21 = some (.int .i32) := by kernel_rfl
  have h2 : Tryz.prog.underlying 9 = some .string := by kernel_rfl
  simp only [convert, Go.TR.run_bind, Go.TR.run_underlying' h1, Go.TR.run_underlying' h2, Conv.intToString, h]
  rfl
theorem way_good {s : List UInt8} (h : goodName s = true) : wayN s = pathN s := if_pos h
theorem s_semS {P : Program} {tb : Tb} {N : Nat} {all rest : List Oper} {K : GEnv → St → Prop} {d : Nat} {op : Op} {ty : TypeId} {pos : String} {af : Array Edge} (e : EV) {env : Env} {F : Hp} {rs : RL} {nx : Nat} (hd : Nat.blt d N = true)
    (h : ∀ (c : Ctx) (a : Act) (w : World) (o : Oper), GSat c N [] ⟨env, F, rs, nx⟩ a w → o.op = op → ∃ v, (execOp a.eval o).run P w = .ok (.value v) w ∧ e.val rs = some v)
    (k : vcOps P tb N false all rest K [] ⟨(d, e) :: env, F, rs, nx⟩) : vcOps P tb N false all (⟨some d, op, ty, pos, af, none⟩ :: rest) K [] ⟨env, F, rs, nx⟩ :=
  s_sem e hd (fun c a w o hs ho => by obtain ⟨v, h1, h2⟩ := h c a w o hs ho; exact ⟨v, w, h1, hs, h2⟩) k
theorem enc48 : Utf8.encode 48 = mkB [48] := by decide
theorem enc49 : Utf8.encode 49 = mkB [49] := by decide
theorem makeP_bad {l : List Entry} {n : List UInt8} {e : Int} (h : makeE l n = e) (he : e ≠ 0) : makeP l n = Prf.none := by unfold makeP; rw [h, if_neg he]
theorem makeQ_bad {l : List Entry} {n : List UInt8} {e : Int} (h : makeE l n = e) (he : e ≠ 0) (F : Hp) : ∃ a, pair (.agg #[S [], .slice none 0 0, .slice none 0 0]) (i64 e) = pair ((makeP l n).v a) (i64 (makeE l n)) ∧ (makeP l n).at F a := by
  rw [makeP_bad h he, h]
  exact ⟨⟨none, 0, none, 0⟩, rfl, frow_nil _ _, frow_nil _ _⟩
theorem makeE_fault {l : List Entry} (n : List UInt8) (h : bookFault l ≠ 0) : makeE l n = bookFault l := if_pos h
theorem makeE_form {l : List Entry} {n : List UInt8} (h : bookFault l = 0) (hg : goodName n = false) : makeE l n = 3 := by unfold makeE; rw [if_neg (by rw [h]; decide), if_neg (by rw [hg]; decide)]
theorem makeE_good {l : List Entry} {n : List UInt8} (h : bookFault l = 0) (hg : goodName n = true) : makeE l n = 0 := by unfold makeE; rw [if_neg (by rw [h]; decide), if_pos hg]
theorem makeQ_ok {l : List Entry} {n : List UInt8} (h : makeE l n = 0) {F : Hp} {pe ps : Option Addr} {ce cs : Nat} (h1 : Frow F pe ((grp l (pathN n)).flatMap Entry.row)) (h2 : Frow F ps ((sidesN l n 16).map mu)) : ∃ a, pair (.agg #[S n, .slice pe (grp l (pathN n)).length ce, .slice ps 16 cs]) (i64 0) = pair ((makeP l n).v a) (i64 (makeE l n)) ∧ (makeP l n).at F a := by
  have e : makeP l n = madeP l n := by unfold makeP; rw [if_pos h]
  rw [e, h]
  refine ⟨⟨pe, ce, ps, cs⟩, ?_, h1, h2⟩
  have e2 : (madeP l n).sides.length = 16 := sidesN_len l n 16
  show _ = pair (.agg #[S n, .slice pe (grp l (pathN n)).length ce, .slice ps (madeP l n).sides.length cs]) _
  rw [e2]
theorem muV_allV (rs : RL) (l : List Nat) : allV rs (muV l) = some (l.map mu) := allV_map_v _
theorem enV_allV (rs : RL) (l : List Entry) : allV rs (enV l) = some (l.flatMap Entry.row) := allV_map_v _
theorem frzL_v (b id : Nat) : ∀ l : List Value, frzL b id (l.map EV.v) = l.map EV.v
  | [] => rfl
  | x :: l => congrArg (EV.v x :: ·) (frzL_v b id l)
theorem frzL_enV (b id : Nat) (l : List Entry) : frzL b id (enV l) = enV l := frzL_v b id _
theorem sib_eq (p : List UInt8) (k : Nat) : p.take k ++ [flipB (p.getD k 0)] = sib p k := rfl
theorem flip_val {p : List UInt8} {d : Nat} (h : p.getD d 0 = 48 ∨ p.getD d 0 = 49) : IntKind.i32.wrap (97 - IntKind.i32.wrap (((p.getD d 0).toNat : Nat) : Int)) = (((flipB (p.getD d 0)).toNat : Nat) : Int) := by
  rcases h with h | h <;> rw [h] <;> rfl
theorem flip_enc {p : List UInt8} {d : Nat} (h : p.getD d 0 = 48 ∨ p.getD d 0 = 49) : Utf8.encode (((flipB (p.getD d 0)).toNat : Nat) : Int) = mkB [flipB (p.getD d 0)] := by
  have e1 : flipB 48 = 49 := by decide
  have e2 : flipB 49 = 48 := by decide
  rcases h with h | h
  · rw [h, e1]
    exact enc49
  · rw [h, e2]
    exact enc48
theorem sides_next {l : List Entry} {n : List UInt8} {d : Nat} (hd : d < 16) : sidesN l n (16 - d) = sidesN l n (16 - (d + 1)) ++ [lvlN l (sib (pathN n) d)] := by
  have e : 16 - d = (16 - (d + 1)) + 1 := by omega
  rw [e, sidesN_succ]
  unfold sideN
  have e2 : 15 - (16 - (d + 1)) = d := by omega
  rw [e2]
attribute [local irreducible] vc vcOps seqK blockK loopK retK retG retI loopV Plain CallOK CallIn bodied VS vcAny dropG backK brK loopPK IntKind.wrap
attribute [local irreducible] goodPre bookFault lvlN lvlM begun noneM markN grp pathN wayN sidesN sideN sib enV muV goodName makeP makeE
set_option maxRecDepth 100000
set_option maxHeartbeats 4000000
theorem make_ok (l : List Entry) (n : List UInt8) (hl : l.length ≤ 4611686018427387904) (hw : ∀ x ∈ l, x.wf) (hn : n.length ≤ 4611686018427387904) {p : Option Addr} {c : Nat} {F : Hp} (hf : Frow F p (l.flatMap Entry.row)) :
    CallF Tryz.prog F 42 [.slice p l.length c, S n] (fun x F' => ∃ a, x = pair ((makeP l n).v a) (i64 (makeE l n)) ∧ (makeP l n).at F' a) := by
  refine CallOK.drop (call_vc (N := 78) (rv := [.cell 4 35, .tmp 5]) tbok mixed Tryz.func42 rfl rfl rfl rfl rfl ?_)
  (refine run ?_; repeat intro b)
  revert b; intro b4
  refine s_plain _ rfl rfl rfl bd82 rfl (treecheck_ok l hl hw hf) ?_
  rcases bookFault_cases l with h0 | h0 | h0
  · obtain ⟨h24, hgood, _⟩ := bookFault_zero h0
    rw [h0]
    (refine run ?_; repeat intro b)
    refine s_plain _ rfl rfl rfl bd98 rfl (pathof_ok n hn F) ?_
    cases hg : goodName n with
    | false =>
      rw [if_neg Bool.false_ne_true]
      (refine run ?_; repeat intro b)
      exact s_retG (VS.id ⟨_, rfl, makeQ_bad (makeE_form h0 hg) (by decide) F⟩)
    | true =>
      rw [if_pos rfl]
      have ew : wayN n = pathN n := way_good hg
      have hE := makeE_good h0 hg
      rw [ew]
      (refine run ?_; repeat intro b)
      revert b; intro b9
      have hg0 : grp (l.take 0) (pathN n) = [] := by rw [List.take_zero]; exact grp_nil _
      have hlen : ∀ k, (grp (l.take k) (pathN n)).length ≤ 24 := fun k => by
        have h1 := grp_len (l.take k) (pathN n)
        rw [List.length_take] at h1
        omega
      refine s_loopP (fun q : Nat × Option Nat × Nat => q.1 ≤ l.length ∧ (q.2.1 = none → (grp (l.take q.1) (pathN n)).length = 0 ∧ q.2.2 = 0) ∧ (grp (l.take q.1) (pathN n)).length ≤ q.2.2)
        (fun q => ⟨[(0, .v (.slice p l.length c)), (4, .loc 0 0), (7, .v (S (pathN n))), (9, .loc 1 0), (33, .v (.slice p l.length c)), (34, .v (i64 (l.length : Nat))), (35, .v (i64 (q.1 : Nat)))], F, [(3, ⟨none, [], 29, 0⟩), (2, ⟨q.2.1, enV (grp (l.take q.1) (pathN n)), 70, q.2.2 * 2⟩), (1, ⟨some b9, [.v (S n), .row 2 0 (grp (l.take q.1) (pathN n)).length q.2.2, .row 3 0 0 0], 35, 3⟩), (0, ⟨some b4, [.v (S []), .v (.slice none 0 0), .v (.slice none 0 0)], 35, 3⟩)], 4⟩) (fun q => l.length - q.1) (0, none, 0) ⟨Nat.zero_le _, fun _ => ⟨by rw [hg0]; rfl, rfl⟩, by rw [hg0]; exact Nat.zero_le _⟩
        (VS.trans (VS.keepN [0, 4, 7, 9, 33, 34, 35] rfl (VS.addnil 70 (VS.addnil 29 (VS.recell 1 [.v (S n), .row 2 0 0 0, .row 3 0 0 0] rfl ⟨⟨trivial, rfl⟩, ⟨(by decide : 2 < 4), rfl⟩, ⟨(by decide : 3 < 4), rfl⟩, trivial⟩ rfl (VS.id (by rw [hg0, enV_nil]; rfl))))))) ?_
      rintro ⟨k, blk, cap⟩ ⟨hk, h3, h4⟩
      dsimp only at hk h3 h4 ⊢
      by_cases hlt : k < l.length
      · obtain ⟨o1, o2⟩ := frow_agg entry_row (by decide) hf k hlt
        have hst := grp_take (s := pathN n) hlt
        have hle := hlen k
        have hwx := hw l[k] (List.getElem_mem hlt)
        have hgx := (hgood l[k] (List.getElem_mem hlt)).1
        generalize l[k] = x at o2 hst hwx hgx
        generalize hL : grp (l.take k) (pathN n) = L at *
        (refine run ?_; repeat intro b)
        refine s_if true (by rw [← decide_eq_true (p := ((k : Nat) : Int) < ((l.length : Nat) : Int)) (by omega)]; rfl) (fun _ => ?_) (fun h => by cases h)
        (refine run ?_; repeat intro b)
        refine s_pureO rfl rfl rfl ⟨by omega, by omega, frow_some hf (j := k * 2) (by rw [flat_len entry_row]; omega)⟩ ?_
        refine s_loadA x.row rfl rfl rfl rfl rfl (by rw [Int.toNat_natCast]; exact o1) (by rw [Int.toNat_natCast]; exact o2) ?_
        (refine run ?_; repeat intro b)
        refine s_plain _ rfl rfl rfl bd99 rfl (proofway_ok x.name hwx.1 F) ?_
        rw [way_good hgx]
        (refine run ?_; repeat intro b)
        refine s_if (decide (pathN x.name = pathN n)) rfl (fun h => ?_) (fun h => ?_)
        · rw [if_pos (of_decide_eq_true h)] at hst
          have hL2 : (grp (l.take (k + 1)) (pathN n)).length = L.length + 1 := by rw [hst, List.length_append]; rfl
          (refine run ?_; repeat intro b)
          refine s_appR rfl rfl rfl rfl rfl rfl rfl rfl (src_row rfl rfl) (one_v _ (l := x.row) fun y hy => entry_one [x] y (by simpa using hy)) h3 h4 rfl (by rw [enV_len]; exact Nat.le_refl _) (by show _ * 32 ≤ _; omega) (fun h => by cases h) (fun _ b2 c2 hc2 => ?_)
          (refine run ?_; repeat intro b)
          have hcells : (enV L).take (L.length * 2) ++ x.row.map EV.v = enV (grp (l.take (k + 1)) (pathN n)) := by rw [hst, enV_snoc]
          have hall : ∀ e ∈ (enV L).take (L.length * 2) ++ x.row.map EV.v, ∃ v, e = EV.v v := fun e he => by
            rw [hcells] at he
            exact enV_all _ e he
          rw [wrap_succ (by omega), ← hL2]
          rw [← hL2] at hc2
          exact s_loopPq (k + 1, some b2, c2) 2 [(3, 3), (6, 2), (1, 1), (0, 0)] [0, 4, 7, 9, 33, 34, 35] [(3, ⟨none, [], 29, 0⟩), (2, ⟨some b2, enV (grp (l.take (k + 1)) (pathN n)), 70, c2 * 2⟩), (1, ⟨some b9, [.v (S n), .row 2 0 (grp (l.take (k + 1)) (pathN n)).length c2, .row 3 0 0 0], 35, 3⟩), (0, ⟨some b4, [.v (S []), .v (.slice none 0 0), .v (.slice none 0 0)], 35, 3⟩)]
            ⟨hlt, (fun h => by cases h), hc2⟩ (by simp only; omega) (Nat.min_le_left _ _)
            ⟨rfl, ⟨_, rfl, rfl, rfl, rfl, .inr rfl⟩, rfl, ⟨_, rfl, rfl, rfl, rfl, .inl ⟨hcells.symm, hall⟩⟩, rfl, ⟨_, rfl, rfl, rfl, rfl, .inr rfl⟩, rfl, ⟨_, rfl, rfl, rfl, rfl, .inr rfl⟩, trivial⟩ rfl rfl rfl rfl rfl rfl rfl
        · rw [if_neg (of_decide_eq_false h)] at hst
          (refine run ?_; repeat intro b)
          rw [wrap_succ (by omega)]
          exact s_loopPq (k + 1, blk, cap) 2 [(3, 3), (2, 2), (1, 1), (0, 0)] [0, 4, 7, 9, 33, 34, 35] [(3, ⟨none, [], 29, 0⟩), (2, ⟨blk, enV L, 70, cap * 2⟩), (1, ⟨some b9, [.v (S n), .row 2 0 L.length cap, .row 3 0 0 0], 35, 3⟩), (0, ⟨some b4, [.v (S []), .v (.slice none 0 0), .v (.slice none 0 0)], 35, 3⟩)]
            ⟨hlt, by rw [hst]; exact h3, by rw [hst]; exact h4⟩ (by simp only; omega) (Nat.min_le_left _ _)
            ⟨rfl, ⟨_, rfl, rfl, rfl, rfl, .inr rfl⟩, rfl, ⟨_, rfl, rfl, rfl, rfl, .inl ⟨rfl, enV_all _⟩⟩, rfl, ⟨_, rfl, rfl, rfl, rfl, .inr rfl⟩, rfl, ⟨_, rfl, rfl, rfl, rfl, .inr rfl⟩, trivial⟩ rfl rfl rfl rfl rfl rfl (by rw [hst])
      · have hge : k = l.length := by omega
        subst hge
        rw [List.take_length] at h3 h4 ⊢
        have hl24 := hlen l.length
        rw [List.take_length] at hl24
        have hP : (pathN n).length = 16 := pathN_len n
        (refine run ?_; repeat intro b)
        refine s_if false (by rw [← decide_eq_false (p := ((l.length : Nat) : Int) < ((l.length : Nat) : Int)) (by omega)]; rfl) (fun h => by cases h) (fun _ => ?_)
        (refine run ?_; repeat intro b)
        refine s_loopP (fun q : Nat × Option Nat × Nat => q.1 ≤ 16 ∧ (q.2.1 = none → 16 - q.1 = 0 ∧ q.2.2 = 0) ∧ 16 - q.1 ≤ q.2.2)
          (fun q => ⟨[(0, .v (.slice p l.length c)), (4, .loc 0 0), (7, .v (S (pathN n))), (9, .loc 1 0), (12, .v (.int .i64 ((q.1 : Int) - 1)))], F, [(4, ⟨q.2.1, muV (sidesN l n (16 - q.1)), 29, q.2.2 * 1⟩), (2, ⟨blk, enV (grp l (pathN n)), 70, cap * 2⟩), (1, ⟨some b9, [.v (S n), .row 2 0 (grp l (pathN n)).length cap, .row 4 0 (16 - q.1) q.2.2], 35, 3⟩), (0, ⟨some b4, [.v (S []), .v (.slice none 0 0), .v (.slice none 0 0)], 35, 3⟩)], 5⟩) (fun q => q.1) (16, none, 0) ⟨Nat.le_refl _, fun _ => ⟨rfl, rfl⟩, Nat.le_refl _⟩ 
          (VS.ren (nx' := 5) [(3, 4), (2, 2), (1, 1), (0, 0)] [0, 4, 7, 9, 12] [(4, ⟨none, [], 29, 0⟩), (2, ⟨blk, enV (grp l (pathN n)), 70, cap * 2⟩), (1, ⟨some b9, [.v (S n), .row 2 0 (grp l (pathN n)).length cap, .row 4 0 0 0], 35, 3⟩), (0, ⟨some b4, [.v (S []), .v (.slice none 0 0), .v (.slice none 0 0)], 35, 3⟩)]
            ⟨rfl, ⟨_, rfl, rfl, rfl, rfl, .inr rfl⟩, rfl, ⟨_, rfl, rfl, rfl, rfl, .inl ⟨rfl, enV_all _⟩⟩, rfl, ⟨_, rfl, rfl, rfl, rfl, .inr rfl⟩, rfl, ⟨_, rfl, rfl, rfl, rfl, .inr rfl⟩, trivial⟩ rfl rfl rfl rfl rfl rfl (by rw [Nat.sub_self, sidesN_zero, muV_nil]; rfl)) ?_
        rintro ⟨d1, blk2, cap2⟩ ⟨g1, g2, g3⟩
        dsimp only at g1 g2 g3 ⊢
        cases d1 with
        | zero =>
          (refine run ?_; repeat intro b)
          cases blk2 with
          | none => exact absurd (g2 rfl).1 (by decide)
          | some b3 =>
            cases blk with
            | none =>
              obtain ⟨e1, e2⟩ := h3 rfl
              have e3 : grp l (pathN n) = [] := List.eq_nil_of_length_eq_zero e1
              exact s_retG (VS.freeze 4 [4, 5] rfl (muV_allV _ _) rfl rfl fun F1 hs1 hf1 => VS.id ⟨_, rfl, makeQ_ok hE (by rw [e3]; exact frow_nil _ none) hf1⟩)
            | some b2 =>
              exact s_retG (VS.freeze 4 [4, 5] rfl (muV_allV _ _) rfl rfl fun F1 hs1 hf1 => VS.freeze 2 [4, 5] rfl (by rw [frzL_enV]; exact enV_allV _ _) rfl rfl fun F2 hs2 hf2 => VS.id ⟨_, rfl, makeQ_ok hE hf2 (frow_sub hs2 hf1)⟩)
        | succ d =>
          have ed : ((d + 1 : Nat) : Int) - 1 = (d : Int) := by omega
          rw [ed]
          have hb := path_bit n d (by omega)
          (refine run ?_; repeat intro b)
          refine s_join (fun _ : Unit => True) (fun _ => ⟨[(0, .v (.slice p l.length c)), (4, .loc 0 0), (7, .v (S (pathN n))), (9, .loc 1 0), (12, .v (i64 (d : Nat))), (13, .v (S (sib (pathN n) d)))], F, [(4, ⟨blk2, muV (sidesN l n (16 - (d + 1))), 29, cap2 * 1⟩), (2, ⟨blk, enV (grp l (pathN n)), 70, cap * 2⟩), (1, ⟨some b9, [.v (S n), .row 2 0 (grp l (pathN n)).length cap, .row 4 0 (16 - (d + 1)) cap2], 35, 3⟩), (0, ⟨some b4, [.v (S []), .v (.slice none 0 0), .v (.slice none 0 0)], 35, 3⟩)], 5⟩) rfl ?rest ?reg
          case reg =>
            intro KK2 kn kr ke
            refine s_regiona [] (by kernel_rfl) ?_
            refine s_firsts [0, 1, 3, 4] (f' := 7) (by kernel_rfl) rfl rfl rfl ?_
            (refine run ?_; repeat intro b)
            refine s_two 2 5 (by kernel_rfl) rfl rfl rfl ?_ ?_
            · refine s_pureO rfl rfl rfl ⟨by omega, by rw [bl_S]; omega⟩ ?_
              (refine run ?_; repeat intro b)
              refine s_br (Hp.sub.refl _) trivial ?_
              refine s_firsts [5, 6, 7] (f' := 3) (by kernel_rfl) rfl rfl rfl ?_
              refine s_pureO rfl rfl rfl ⟨by omega, by rw [bl_S]; omega⟩ ?_
              (refine run ?_; repeat intro b)
              rw [bl_S, Int.toNat_natCast, flip_val hb]
              refine s_one 8 (by kernel_rfl) rfl rfl ?_
              refine s_semS (.v (S [flipB ((pathN n).getD d 0)])) rfl (fun c a w o hs ho => ?_) ?_
              · have ex := opd_eval (x := .tmp 62) hs rfl
                simp only [EV.val, Option.some.injEq] at ex
                refine ⟨_, ?_, rfl⟩
                simp only [execOp, ho, ← ex]
                rw [Go.TR.run_bind, run_rune _ _ (flip_enc hb)]
                rfl
              (refine run ?_; repeat intro b)
              refine s_br (Hp.sub.refl _) trivial ?_
              refine s_firsts [9, 10] (f' := 0) (by kernel_rfl) rfl rfl rfl ?_
              refine s_pureO rfl rfl rfl (by show ((pathN n).take d).length + 1 ≤ 9223372036854775807; rw [List.length_take]; omega) ?_
              rw [bl_S, bl_S, sib_eq]
              (refine run ?_; repeat intro b)
              refine s_stop (by kernel_rfl) ?_
              exact kn _ (VS.keepN [0, 4, 7, 9, 12, 13] rfl ⟨(), trivial, rfl⟩)
            · refine s_pureO rfl rfl rfl ⟨by omega, by rw [bl_S]; omega⟩ ?_
              (refine run ?_; repeat intro b)
              refine s_br (Hp.sub.refl _) trivial ?_
              refine s_firsts [2, 6, 7] (f' := 3) (by kernel_rfl) rfl rfl rfl ?_
              refine s_pureO rfl rfl rfl ⟨by omega, by rw [bl_S]; omega⟩ ?_
              (refine run ?_; repeat intro b)
              rw [bl_S, Int.toNat_natCast, flip_val hb]
              refine s_one 8 (by kernel_rfl) rfl rfl ?_
              refine s_semS (.v (S [flipB ((pathN n).getD d 0)])) rfl (fun c a w o hs ho => ?_) ?_
              · have ex := opd_eval (x := .tmp 62) hs rfl
                simp only [EV.val, Option.some.injEq] at ex
                refine ⟨_, ?_, rfl⟩
                simp only [execOp, ho, ← ex]
                rw [Go.TR.run_bind, run_rune _ _ (flip_enc hb)]
                rfl
              (refine run ?_; repeat intro b)
              refine s_br (Hp.sub.refl _) trivial ?_
              refine s_firsts [9, 10] (f' := 0) (by kernel_rfl) rfl rfl rfl ?_
              refine s_pureO rfl rfl rfl (by show ((pathN n).take d).length + 1 ≤ 9223372036854775807; rw [List.length_take]; omega) ?_
              rw [bl_S, bl_S, sib_eq]
              (refine run ?_; repeat intro b)
              refine s_stop (by kernel_rfl) ?_
              exact kn _ (VS.keepN [0, 4, 7, 9, 12, 13] rfl ⟨(), trivial, rfl⟩)
          rintro _ _
          have hgs := sib_good (n := n) (k := d) (by omega)
          obtain ⟨r1, r2⟩ := at_good h0 hgs
          (refine run ?_; repeat intro b)
          refine s_plain _ rfl rfl rfl bd81 rfl (treeAt_ok l (sib (pathN n) d) hl hw (by have := goodPre_len hgs; omega) hf) ?_
          rw [r1, r2]
          (refine run ?_; repeat intro b)
          have es : 16 - (d + 1) = 15 - d := by omega
          refine s_appR rfl rfl rfl rfl rfl rfl rfl rfl (src_row rfl rfl) (one_v _ (l := [mu (lvlN l (sib (pathN n) d))]) (by simp [one])) g2 g3 rfl (by show (16 - (d + 1)) * 1 ≤ _; rw [muV_len, sidesN_len]; omega) (by show _ * 8 ≤ _; omega) (fun h => by cases h) (fun _ b5 c5 hc5 => ?_)
          (refine run ?_; repeat intro b)
          have hcells : (muV (sidesN l n (16 - (d + 1)))).take ((16 - (d + 1)) * 1) ++ [.v (mu (lvlN l (sib (pathN n) d)))] = muV (sidesN l n (16 - d)) := by
            have := muV_snoc (sidesN l n (16 - (d + 1))) (lvlN l (sib (pathN n) d))
            rw [sidesN_len] at this
            rw [sides_next (d := d) (by omega), ← this]
          have hall : ∀ e ∈ (muV (sidesN l n (16 - (d + 1)))).take ((16 - (d + 1)) * 1) ++ [.v (mu (lvlN l (sib (pathN n) d)))], ∃ v, e = EV.v v := fun e he => by
            rw [hcells] at he
            exact muV_all _ e he
          have e2 : 16 - (d + 1) + 1 = 16 - d := by omega
          rw [wrap_i64 (by omega) (by omega), e2]
          rw [e2] at hc5
          exact s_loopPq (d, some b5, c5) 4 [(6, 4), (2, 2), (1, 1), (0, 0)] [0, 4, 7, 9, 12] [(4, ⟨some b5, muV (sidesN l n (16 - d)), 29, c5 * 1⟩), (2, ⟨blk, enV (grp l (pathN n)), 70, cap * 2⟩), (1, ⟨some b9, [.v (S n), .row 2 0 (grp l (pathN n)).length cap, .row 4 0 (16 - d) c5], 35, 3⟩), (0, ⟨some b4, [.v (S []), .v (.slice none 0 0), .v (.slice none 0 0)], 35, 3⟩)]
            ⟨by omega, (fun h => by cases h), hc5⟩ (Nat.lt_succ_self d) (Nat.min_le_left _ _)
            ⟨rfl, ⟨_, rfl, rfl, rfl, rfl, .inl ⟨hcells.symm, hall⟩⟩, rfl, ⟨_, rfl, rfl, rfl, rfl, .inl ⟨rfl, enV_all _⟩⟩, rfl, ⟨_, rfl, rfl, rfl, rfl, .inr rfl⟩, rfl, ⟨_, rfl, rfl, rfl, rfl, .inr rfl⟩, trivial⟩ rfl rfl rfl rfl rfl rfl rfl
  · have hq := makeQ_bad (e := bookFault l) (makeE_fault n (by rw [h0]; decide)) (by rw [h0]; decide) F
    rw [h0] at hq ⊢
    (refine run ?_; repeat intro b)
    exact s_retG (VS.id ⟨_, rfl, hq⟩)
  · have hq := makeQ_bad (e := bookFault l) (makeE_fault n (by rw [h0]; decide)) (by rw [h0]; decide) F
    rw [h0] at hq ⊢
    (refine run ?_; repeat intro b)
    exact s_retG (VS.id ⟨_, rfl, hq⟩)
end Go.Proofs.YthkkgphjjmhglaaGreatDoor
