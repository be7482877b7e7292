/-
What is wrong with a proof; what is said of entries: the walks.
-/
import Derived.Test.YthkkgphjjmhglaaGreatDoorBook
import Derived.Test.YthkkgphjjmhglaaGreatDoorSetRows2
import Derived.Test.YthkkgphjjmhglaaGreatDoorSetIdx
namespace Go.Proofs.YthkkgphjjmhglaaGreatDoor
set_option linter.unusedVariables false
set_option linter.unusedSimpArgs false
open Go.TR
theorem any_ext {α : Type} {f g : α → Bool} : ∀ {l : List α}, (∀ x ∈ l, f x = g x) → l.any f = l.any g
  | [], _ => rfl
  | a :: l, h => by
    rw [List.any_cons, List.any_cons, h a (by simp), any_ext fun x hx => h x (by simp [hx])]
theorem pcell_1 {F : Hp} {b : Nat} {x : Value} (h : Frow F (some ⟨b, 0, none⟩) [x]) : Pcell F (some ⟨b, 0, none⟩) = some x := by
  have := h 0 x rfl
  simpa [padd, Addr.add] using this
theorem lt_v (l : List Value) {n : Nat} : ∀ e ∈ l.map EV.v, EV.lt n e := fun e he => by
  obtain ⟨x, _, rfl⟩ := List.mem_map.1 he
  trivial
theorem any_step {α : Type} {f : α → Bool} {l : List α} {k : Nat} (h : k < l.length) (h0 : (l.take k).any f = false) (h1 : f l[k] = false) : (l.take (k + 1)).any f = false := by
  rw [List.take_succ_eq_append_getElem h, List.any_append, h0]
  simp [h1]
theorem any_hit {α : Type} {f : α → Bool} {l : List α} {k : Nat} (h : k < l.length) (h1 : f l[k] = true) : l.any f = true := List.any_eq_true.2 ⟨l[k], List.getElem_mem h, h1⟩
attribute [local irreducible] ahead orderN pathN wayN goodName bookFault markN
attribute [local irreducible] vc vcOps seqK blockK loopK retK retG retI loopV Plain CallOK CallIn bodied VS vcAny dropG backK brK loopPK IntKind.wrap
set_option maxRecDepth 100000
/-- slices.IndexFunc, ContainsFunc: elements of some cells. -/
theorem ents_idx (q : Entry → Bool) (g : Nat) (lb : Array Value) (hb : bodied Tryz.prog g) (l : List Entry) {p : Option Addr} {c : Nat} {F : Hp} (hf : Frow F p (l.flatMap Entry.row)) (hl : l.length ≤ 4611686018427387904) (hp : ∀ x ∈ l, Plain Tryz.prog F g (.agg (Entry.row x).toArray :: lb.toList) (.bool (q x))) :
    Plain Tryz.prog F 211 [.slice p l.length c, .func (.func g) #[] lb] (i64 (idxP q l)) := by
  refine plain_vc (N := 19) (rv := [.tmp 4]) tbok mixed Tryz.func211 rfl rfl rfl rfl rfl ?_
  (refine run ?_; repeat intro b)
  refine s_loopP (fun k : Nat => k ≤ l.length ∧ (l.take k).any q = false) (fun k => ⟨[(0, .v (.slice p l.length c)), (1, .v (.func (.func g) #[] lb)), (7, .v (i64 (l.length : Nat))), (8, .v (i64 (k : Nat)))], F, [], 0⟩) (fun k => l.length - k) 0 ⟨Nat.zero_le _, rfl⟩ (VS.keepN [0, 1, 7, 8] rfl rfl) ?_
  rintro k ⟨hk, hany⟩
  (refine run ?_; repeat intro b)
  refine s_if _ rfl (fun h => ?_) (fun h => ?_)
  · have hlt : k < l.length := by simpa using h
    obtain ⟨o1, o2⟩ := frow_agg entry_row (by decide) hf k hlt
    (refine run ?_; repeat intro b)
    refine s_pureO rfl rfl rfl ⟨by omega, by omega, frow_some hf (j := k * 2) (by rw [flat_len entry_row]; omega)⟩ ?_
    refine s_loadA (Entry.row l[k]) rfl rfl rfl rfl rfl (by rw [Int.toNat_natCast]; exact o1) (by rw [Int.toNat_natCast]; exact o2) ?_
    (refine run ?_; repeat intro b)
    refine s_plain _ rfl rfl (by rw [forceL_eq]; rfl) hb rfl (hp l[k] (List.getElem_mem hlt)) ?_
    (refine run ?_; repeat intro b)
    refine s_if _ rfl (fun h2 => ?_) (fun h2 => ?_)
    · (refine run ?_; repeat intro b)
      rw [idxP_found hlt hany h2]
      rfl
    · (refine run ?_; repeat intro b)
      rw [wrap_succ (by omega)]
      refine s_loopPn (k + 1) ⟨hlt, ?_⟩ (by omega) (VS.keepN [0, 1, 7, 8] rfl rfl)
      rw [List.take_succ_eq_append_getElem hlt, List.any_append, hany]
      simp [h2]
  · have hge : k = l.length := by
      have : ¬ k < l.length := by simpa using h
      omega
    subst hge
    rw [List.take_length] at hany
    (refine run ?_; repeat intro b)
    rw [idxP_none hany]
    rfl
theorem ents_has (q : Entry → Bool) (g : Nat) (lb : Array Value) (hb : bodied Tryz.prog g) (l : List Entry) {p : Option Addr} {c : Nat} {F : Hp} (hf : Frow F p (l.flatMap Entry.row)) (hl : l.length ≤ 4611686018427387904) (hp : ∀ x ∈ l, Plain Tryz.prog F g (.agg (Entry.row x).toArray :: lb.toList) (.bool (q x))) :
    Plain Tryz.prog F 258 [.slice p l.length c, .func (.func g) #[] lb] (.bool (l.any q)) := by
  refine plain_vc (N := 9) (rv := [.tmp 4]) tbok mixed Tryz.func258 rfl rfl rfl rfl rfl ?_
  (refine run ?_; repeat intro b)
  refine s_plain _ rfl rfl rfl bd211 rfl (ents_idx q g lb hb l hf hl hp) ?_
  (refine run ?_; repeat intro b)
  rw [idxP_neg]
  rfl
/-- slices.IndexFunc, ContainsFunc: elements of one cell. -/
theorem mus_idx (q : Nat → Bool) (g : Nat) (lb : Array Value) (hb : bodied Tryz.prog g) (l : List Nat) {p : Option Addr} {c : Nat} {F : Hp} (hf : Frow F p (l.map mu)) (hl : l.length ≤ 4611686018427387904) (hp : ∀ x ∈ l, Plain Tryz.prog F g (mu x :: lb.toList) (.bool (q x))) :
    Plain Tryz.prog F 274 [.slice p l.length c, .func (.func g) #[] lb] (i64 (idxP q l)) := by
  refine plain_vc (N := 19) (rv := [.tmp 4]) tbok mixed Tryz.func274 rfl rfl rfl rfl rfl ?_
  (refine run ?_; repeat intro b)
  refine s_loopP (fun k : Nat => k ≤ l.length ∧ (l.take k).any q = false) (fun k => ⟨[(0, .v (.slice p l.length c)), (1, .v (.func (.func g) #[] lb)), (7, .v (i64 (l.length : Nat))), (8, .v (i64 (k : Nat)))], F, [], 0⟩) (fun k => l.length - k) 0 ⟨Nat.zero_le _, rfl⟩ (VS.keepN [0, 1, 7, 8] rfl rfl) ?_
  rintro k ⟨hk, hany⟩
  (refine run ?_; repeat intro b)
  refine s_if _ rfl (fun h => ?_) (fun h => ?_)
  · have hlt : k < l.length := by simpa using h
    (refine run ?_; repeat intro b)
    refine s_pureO rfl rfl rfl ⟨by omega, by omega, frow_some hf (j := k) (by simpa using hlt)⟩ ?_
    refine s_load (mu l[k]) rfl rfl rfl rfl (by have := frow_get hf (j := k) (by simpa using hlt); simpa using this) ?_
    (refine run ?_; repeat intro b)
    refine s_plain _ rfl rfl (by rw [forceL_eq]; rfl) hb rfl (hp l[k] (List.getElem_mem hlt)) ?_
    (refine run ?_; repeat intro b)
    refine s_if _ rfl (fun h2 => ?_) (fun h2 => ?_)
    · (refine run ?_; repeat intro b)
      rw [idxP_found hlt hany h2]
      rfl
    · (refine run ?_; repeat intro b)
      rw [wrap_succ (by omega)]
      refine s_loopPn (k + 1) ⟨hlt, ?_⟩ (by omega) (VS.keepN [0, 1, 7, 8] rfl rfl)
      rw [List.take_succ_eq_append_getElem hlt, List.any_append, hany]
      simp [h2]
  · have hge : k = l.length := by
      have : ¬ k < l.length := by simpa using h
      omega
    subst hge
    rw [List.take_length] at hany
    (refine run ?_; repeat intro b)
    rw [idxP_none hany]
    rfl
theorem mus_has (q : Nat → Bool) (g : Nat) (lb : Array Value) (hb : bodied Tryz.prog g) (l : List Nat) {p : Option Addr} {c : Nat} {F : Hp} (hf : Frow F p (l.map mu)) (hl : l.length ≤ 4611686018427387904) (hp : ∀ x ∈ l, Plain Tryz.prog F g (mu x :: lb.toList) (.bool (q x))) :
    Plain Tryz.prog F 260 [.slice p l.length c, .func (.func g) #[] lb] (.bool (l.any q)) := by
  refine plain_vc (N := 9) (rv := [.tmp 4]) tbok mixed Tryz.func260 rfl rfl rfl rfl rfl ?_
  (refine run ?_; repeat intro b)
  refine s_plain _ rfl rfl rfl bd274 rfl (mus_idx q g lb hb l hf hl hp) ?_
  (refine run ?_; repeat intro b)
  rw [idxP_neg]
  rfl
theorem right1_ok (x : Entry) (w : List UInt8) (hw : x.wf) {q : Option Addr} {F : Hp} (hq : Pcell F q = some (S w)) : Plain Tryz.prog F 259 [x.v, .pointer q] (.bool (!decide (wayN x.name = w))) := by
  refine plain_vc (N := 9) (rv := [.tmp 3]) tbok mixed Tryz.func259 rfl rfl rfl rfl rfl ?_
  (refine run ?_; repeat intro b)
  refine s_regiond (by kernel_rfl) ?_
  (refine run ?_; repeat intro b)
  refine s_plain _ rfl rfl rfl bd99 rfl (proofway_ok x.name hw.name F) ?_
  (refine run ?_; repeat intro b)
  refine s_load (S w) rfl rfl rfl rfl hq ?_
  (refine run ?_; repeat intro b)
  simp only [tupV, bl_S]
  congr
theorem right2_ok (m : Nat) (F : Hp) : Plain Tryz.prog F 261 [mu m] (.bool (decide (MM ≤ m))) := by
  refine plain_vc (N := 5) (rv := [.tmp 2]) tbok mixed Tryz.func261 rfl rfl rfl rfl rfl ?_
  (refine run ?_; repeat intro b)
  have e : decide ((2305843009213693951 : Int) ≤ (m : Int)) = decide (MM ≤ m) := by
    rw [Bool.eq_iff_iff, decide_eq_true_eq, decide_eq_true_eq]
    show (2305843009213693951 : Int) ≤ (m : Int) ↔ 2305843009213693951 ≤ m
    omega
  rw [e]
  rfl
set_option maxHeartbeats 1000000 in
theorem proofright_ok (p : Prf) (a : Lay) (hw : p.wf) {F : Hp} (hf : p.at F a) : Plain Tryz.prog F 229 [p.v a] (i64 (prfFault p)) := by
  obtain ⟨h1, h2, h3, h4, h5⟩ := hw
  obtain ⟨f1, f2⟩ := hf
  refine plain_vc (N := 33) (rv := [.tmp 2]) tbok mixed Tryz.func229 rfl rfl rfl rfl rfl ?_
  (refine run ?_; repeat intro b)
  refine s_plain _ rfl rfl rfl bd129 rfl (name_ok p.name h1 F) ?_
  unfold prfFault
  cases hg : goodName p.name with
  | false =>
    (refine run ?_; repeat intro b)
    rfl
  | true =>
    rw [if_pos rfl]
    (refine run ?_; repeat intro b)
    refine s_plain _ rfl rfl rfl bd82 rfl (treecheck_ok p.ents h2 h3 f1) ?_
    (refine run ?_; repeat intro b)
    refine s_if (decide (bookFault p.ents ≠ 0)) ?_ (fun h => ?_) (fun h => ?_)
    · refine congrArg (fun b => some (EV.v (.bool b))) ?_
      rw [Bool.eq_iff_iff]; simp
    · rw [if_pos (of_decide_eq_true h)]
      (refine run ?_; repeat intro b)
      rfl
    · rw [if_neg (of_decide_eq_false h)]
      obtain ⟨_, hgood, _⟩ := bookFault_zero (by simpa using h)
      have hany : (p.ents.any fun x => !decide (wayN x.name = wayN p.name)) = p.ents.any fun x => !decide (pathN x.name = pathN p.name) := by
        refine any_ext fun x hx => ?_
        unfold wayN
        rw [if_pos (hgood x hx).1, if_pos hg]
      rw [← hany]
      (refine run ?_; repeat intro b)
      refine s_plain _ rfl rfl rfl bd99 rfl (proofway_ok p.name h1 F) ?_
      (refine run ?_; repeat intro b)
      refine s_shift (VS.freeze 1 [1, 19, 20] rfl rfl rfl rfl fun F1 hs1 hf1 => VS.id ?_)
      refine s_plain _ rfl rfl rfl bd258 rfl (ents_has (fun x => !decide (wayN x.name = wayN p.name)) _ #[_] bd259 p.ents (frow_sub hs1 f1) h2 (fun x hx => right1_ok x _ (h3 x hx) (pcell_1 hf1))) ?_
      (refine run ?_; repeat intro b)
      refine s_gplain _ rfl rfl rfl rfl bd260 rfl rfl (fun _ => mus_has (fun m => decide (MM ≤ m)) _ #[] bd261 p.sides (frow_sub hs1 f2) h4 (fun x _ => right2_ok x F1)) ?_
      (refine run ?_; repeat intro b)
      generalize (p.ents.any fun x => !decide (wayN x.name = wayN p.name)) = x
      generalize (p.sides.any fun m => decide (MM ≤ m)) = y
      refine s_if (x || decide (p.sides.length ≠ 16) || y) ?_ (fun h => ?_) (fun h => ?_)
      · refine congrArg (fun b => some (EV.v (.bool b))) ?_
        have e : (((p.sides.length : Nat) : Int) != 16) = decide (p.sides.length ≠ 16) := by
          rw [Bool.eq_iff_iff]
          simp
          omega
        rw [bpick_or, bpick_or, e]
      · (refine run ?_; repeat intro b)
        by_cases hs : p.sides.length = 16 <;> cases x <;> cases y <;> simp_all [tupV]
      · (refine run ?_; repeat intro b)
        by_cases hs : p.sides.length = 16 <;> cases x <;> cases y <;> simp_all [tupV]
set_option maxHeartbeats 1000000 in
theorem prooffault_ok (p : Prf) (a : Lay) (hw : p.wf) {F : Hp} (hf : p.at F a) : Plain Tryz.prog F 47 [p.v a] (i64 (prfFault p)) := by
  obtain ⟨h1, h2, h3, h4, h5⟩ := hw
  obtain ⟨f1, f2⟩ := hf
  refine plain_vc (N := 47) (rv := [.tmp 2]) tbok mixed Tryz.func47 rfl rfl rfl rfl rfl ?_
  (refine run ?_; repeat intro b)
  refine s_plain _ rfl rfl rfl bd15 rfl (goodname_ok p.name h1 F) ?_
  unfold prfFault
  cases hg : goodName p.name with
  | false =>
    (refine run ?_; repeat intro b)
    rfl
  | true =>
    rw [if_pos rfl]
    (refine run ?_; repeat intro b)
    refine s_plain _ rfl rfl rfl bd30 rfl (bookfault_ok p.ents h2 h3 f1) ?_
    (refine run ?_; repeat intro b)
    refine s_if (decide (bookFault p.ents ≠ 0)) ?_ (fun h => ?_) (fun h => ?_)
    · refine congrArg (fun b => some (EV.v (.bool b))) ?_
      rw [Bool.eq_iff_iff]; simp
    · rw [if_pos (of_decide_eq_true h)]
      (refine run ?_; repeat intro b)
      rfl
    · rw [if_neg (of_decide_eq_false h)]
      (refine run ?_; repeat intro b)
      refine s_loopP (fun k : Nat => k ≤ p.ents.length ∧ ((p.ents.take k).any fun x => !decide (pathN x.name = pathN p.name)) = false) (fun k => ⟨[(1, .loc 0 0), (19, .v (.slice a.e p.ents.length a.ce)), (20, .v (i64 (p.ents.length : Nat))), (21, .v (i64 (k : Nat)))], F, [(0, ⟨some b, [.v (S p.name), .v (.slice a.e p.ents.length a.ce), .v (.slice a.s p.sides.length a.cs)], 35, 3⟩)], 1⟩) (fun k => p.ents.length - k) 0 ⟨Nat.zero_le _, rfl⟩ (VS.keepN [1, 19, 20, 21] rfl rfl) ?_
      rintro k ⟨hk, hu⟩
      by_cases hlt : k < p.ents.length
      · obtain ⟨o1, o2⟩ := frow_agg entry_row (by decide) f1 k hlt
        have wx := h3 p.ents[k] (List.getElem_mem hlt)
        have hst := any_step hlt hu
        have hit := any_hit (f := fun x : Entry => !decide (pathN x.name = pathN p.name)) hlt
        generalize p.ents[k] = x at o2 wx hst hit
        (refine run ?_; repeat intro b)
        refine s_if true (by rw [← decide_eq_true (p := ((k : Nat) : Int) < ((p.ents.length : Nat) : Int)) (by omega)]; rfl) (fun _ => ?_) (fun h => by cases h)
        (refine run ?_; repeat intro b)
        refine s_pureO rfl rfl rfl ⟨by omega, by omega, frow_some f1 (j := k * 2) (by rw [flat_len entry_row]; omega)⟩ ?_
        refine s_loadA x.row rfl rfl rfl rfl rfl (by rw [Int.toNat_natCast]; exact o1) (by rw [Int.toNat_natCast]; exact o2) ?_
        (refine run ?_; repeat intro b)
        refine s_regiond (by kernel_rfl) ?_
        (refine run ?_; repeat intro b)
        refine s_plain _ rfl rfl rfl bd54 rfl (refpath_ok x.name wx.name F) ?_
        (refine run ?_; repeat intro b)
        refine s_plain _ rfl rfl rfl bd54 rfl (refpath_ok p.name h1 F) ?_
        (refine run ?_; repeat intro b)
        refine s_if (!decide (pathN x.name = pathN p.name)) rfl (fun h => ?_) (fun h => ?_)
        · rw [if_pos (hit h)]
          (refine run ?_; repeat intro b)
          rfl
        · (refine run ?_; repeat intro b)
          rw [wrap_succ (by omega)]
          exact s_loopPc (k + 1) [1] [1, 19, 20, 21] ⟨hlt, hst h⟩ (by omega) rfl rfl rfl rfl ⟨⟨Nat.zero_lt_succ _, fun e he => lt_v [_, _, _] e he⟩, trivial⟩ rfl
      · have hge : k = p.ents.length := by omega
        subst hge
        rw [List.take_length] at hu
        rw [if_neg (by rw [hu]; decide)]
        (refine run ?_; repeat intro b)
        refine s_if false (by rw [← decide_eq_false (p := ((p.ents.length : Nat) : Int) < ((p.ents.length : Nat) : Int)) (by omega)]; rfl) (fun h => by cases h) (fun _ => ?_)
        (refine run ?_; repeat intro b)
        refine s_if (decide (p.sides.length ≠ 16)) ?_ (fun h => ?_) (fun h => ?_)
        · refine congrArg (fun b => some (EV.v (.bool b))) ?_
          rw [Bool.eq_iff_iff]
          simp
          omega
        · rw [if_pos (of_decide_eq_true h)]
          (refine run ?_; repeat intro b)
          rfl
        · rw [if_neg (of_decide_eq_false h)]
          (refine run ?_; repeat intro b)
          refine s_loopP (fun k : Nat => k ≤ p.sides.length ∧ ((p.sides.take k).any fun m => decide (MM ≤ m)) = false) (fun k => ⟨[(38, .v (.slice a.s p.sides.length a.cs)), (39, .v (i64 (p.sides.length : Nat))), (40, .v (i64 (k : Nat)))], F, [], 1⟩) (fun k => p.sides.length - k) 0 ⟨Nat.zero_le _, rfl⟩ (VS.dropR [0] rfl (VS.keepN [38, 39, 40] rfl rfl)) ?_
          rintro k ⟨hk, hu2⟩
          by_cases hlt : k < p.sides.length
          · have g := frow_get f2 (j := k) (by rw [List.length_map]; exact hlt)
            rw [List.getElem_map] at g
            have hst := any_step hlt hu2
            have hit := any_hit (f := fun m : Nat => decide (MM ≤ m)) hlt
            generalize p.sides[k] = m at g hst hit
            (refine run ?_; repeat intro b)
            refine s_if true (by rw [← decide_eq_true (p := ((k : Nat) : Int) < ((p.sides.length : Nat) : Int)) (by omega)]; rfl) (fun _ => ?_) (fun h => by cases h)
            (refine run ?_; repeat intro b)
            refine s_pureO rfl rfl rfl ⟨by omega, by omega, frow_some f2 (j := k) (by rw [List.length_map]; exact hlt)⟩ ?_
            refine s_load (mu m) rfl rfl rfl rfl (by rw [Int.toNat_natCast, Nat.mul_one]; exact g) ?_
            (refine run ?_; repeat intro b)
            refine s_if (decide (MM ≤ m)) ?_ (fun h => ?_) (fun h => ?_)
            · refine congrArg (fun b => some (EV.v (.bool b))) ?_
              rw [Bool.eq_iff_iff, decide_eq_true_eq, decide_eq_true_eq]
              show (2305843009213693951 : Int) ≤ (m : Int) ↔ 2305843009213693951 ≤ m
              omega
            · rw [if_pos (hit h)]
              (refine run ?_; repeat intro b)
              rfl
            · (refine run ?_; repeat intro b)
              rw [wrap_succ (by omega)]
              exact s_loopPn (k + 1) ⟨hlt, hst h⟩ (by omega) (VS.keepN [38, 39, 40] rfl rfl)
          · have hge : k = p.sides.length := by omega
            subst hge
            rw [List.take_length] at hu2
            rw [if_neg (by rw [hu2]; decide)]
            (refine run ?_; repeat intro b)
            refine s_if false (by rw [← decide_eq_false (p := ((p.sides.length : Nat) : Int) < ((p.sides.length : Nat) : Int)) (by omega)]; rfl) (fun h => by cases h) (fun _ => ?_)
            (refine run ?_; repeat intro b)
            rfl
end Go.Proofs.YthkkgphjjmhglaaGreatDoor
