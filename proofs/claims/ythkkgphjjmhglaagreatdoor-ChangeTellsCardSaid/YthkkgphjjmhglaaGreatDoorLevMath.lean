/-
The levels of a book, plainly: of each prefix its mark.
-/
import Derived.Test.YthkkgphjjmhglaaGreatDoorSetRows2
import Derived.Test.YthkkgphjjmhglaaGreatDoorFwU
namespace Go.Proofs.YthkkgphjjmhglaaGreatDoor
set_option linter.unusedVariables false
set_option linter.unusedSimpArgs false
open Go.TR
/-- The entries of one path. -/
def grp (l : List Entry) (s : List UInt8) : List Entry := l.filter fun x => decide (pathN x.name = s)
/-- The mark at a prefix, n steps above the leaves. -/
def lvl (l : List Entry) : Nat → List UInt8 → Nat
  | 0, s => markN (leafN (grp l s))
  | n + 1, s => markN (nodeN (lvl l n (s ++ [48])) (lvl l n (s ++ [49])))
def lvlN (l : List Entry) (s : List UInt8) : Nat := lvl l (16 - s.length) s
/-- Does some path begin so? -/
def begun (l : List Entry) (s : List UInt8) : Bool := l.any fun x => s.isPrefixOf (pathN x.name)
theorem grp_none {l : List Entry} {s : List UInt8} (h : begun l s = false) : grp l s = [] := by
  unfold grp
  rw [List.filter_eq_nil_iff]
  intro x hx he
  rw [decide_eq_true_eq] at he
  unfold begun at h
  rw [List.any_eq_false] at h
  refine h x hx ?_
  rw [he]
  simp
theorem begun_app {l : List Entry} {s : List UInt8} (t : List UInt8) (h : begun l s = false) : begun l (s ++ t) = false := by
  unfold begun at *
  rw [List.any_eq_false] at *
  intro x hx hp
  refine h x hx ?_
  rw [List.isPrefixOf_iff_prefix] at *
  exact (List.prefix_append s t).trans hp
/-- Where no path begins so: the mark of nothing. -/
theorem lvl_none (l : List Entry) : ∀ (n : Nat) (s : List UInt8), begun l s = false → lvl l n s = noneM
  | 0, s, h => by
    unfold lvl
    rw [grp_none h]
    rfl
  | n + 1, s, h => by
    unfold lvl
    rw [lvl_none l n _ (begun_app [48] h), lvl_none l n _ (begun_app [49] h)]
    unfold nodeN
    rw [if_pos ⟨rfl, rfl⟩]
    rfl
theorem grp_snoc (l : List Entry) (x : Entry) (s : List UInt8) : grp (l ++ [x]) s = if pathN x.name = s then grp l s ++ [x] else grp l s := by
  unfold grp
  rw [List.filter_append]
  by_cases h : pathN x.name = s <;> simp [h]
theorem grp_mem {l : List Entry} {x : Entry} (h : x ∈ l) : grp l (pathN x.name) ≠ [] := by
  unfold grp
  intro e
  rw [List.filter_eq_nil_iff] at e
  exact e x h (by simp)
theorem grp_ne {l : List Entry} {s : List UInt8} (h : grp l s ≠ []) : ∃ x ∈ l, pathN x.name = s := by
  cases hg : grp l s with
  | nil => exact absurd hg h
  | cons a t =>
    have ha : a ∈ grp l s := by rw [hg]; exact List.mem_cons_self ..
    unfold grp at ha
    rw [List.mem_filter, decide_eq_true_eq] at ha
    exact ⟨a, ha.1, ha.2⟩
theorem grp_sub {l : List Entry} {s : List UInt8} {x : Entry} (h : x ∈ grp l s) : x ∈ l := by
  unfold grp at h
  exact (List.mem_filter.1 h).1
theorem grp_len (l : List Entry) (s : List UInt8) : (grp l s).length ≤ l.length := List.length_filter_le _ _
theorem begun_path {l : List Entry} {x : Entry} (h : x ∈ l) {s : List UInt8} (hs : s <+: pathN x.name) : begun l s = true := by
  unfold begun
  rw [List.any_eq_true]
  exact ⟨x, h, List.isPrefixOf_iff_prefix.2 hs⟩
theorem begun_ne {l : List Entry} {s : List UInt8} (h : begun l s = true) : ∃ x ∈ l, s <+: pathN x.name := by
  unfold begun at h
  rw [List.any_eq_true] at h
  obtain ⟨x, hx, h⟩ := h
  exact ⟨x, hx, List.isPrefixOf_iff_prefix.1 h⟩
theorem begun_full {l : List Entry} {s : List UInt8} (h : 16 ≤ s.length) : begun l s = true ↔ grp l s ≠ [] := by
  constructor
  · intro hb
    obtain ⟨x, hx, hp⟩ := begun_ne hb
    have : s = pathN x.name := hp.eq_of_length_le (by rw [pathN_len]; exact h)
    rw [this]
    exact grp_mem hx
  · intro hg
    obtain ⟨x, hx, he⟩ := grp_ne hg
    rw [← he]
    exact begun_path hx (List.prefix_refl _)
theorem lvlN_none {l : List Entry} {s : List UInt8} (h : begun l s = false) : lvlN l s = noneM := lvl_none l _ _ h
theorem lvlN_leaf {l : List Entry} {s : List UInt8} (h : s.length = 16) : lvlN l s = markN (leafN (grp l s)) := by
  unfold lvlN
  rw [h]
  rfl
theorem lvlN_node {l : List Entry} {s : List UInt8} (h : s.length < 16) : lvlN l s = markN (nodeN (lvlN l (s ++ [48])) (lvlN l (s ++ [49]))) := by
  unfold lvlN
  rw [List.length_append, List.length_append]
  have e : 16 - s.length = (16 - (s.length + 1)) + 1 := by omega
  rw [e]
  rfl
/-- A map that tells the marks of some prefixes. -/
def lvlM (l : List Entry) (f : List UInt8 → Bool) : List UInt8 → Option Value := fun s => if f s = true then some (mu (lvlN l s)) else none
theorem lvlM_upd {l : List Entry} {f g : List UInt8 → Bool} {q : List UInt8} (hq : g q = true) (h : ∀ s, s ≠ q → g s = f s) : updM (lvlM l f) q (mu (lvlN l q)) = lvlM l g := by
  funext s
  unfold updM lvlM
  by_cases hs : s = q
  · subst hs
    rw [if_pos rfl, if_pos hq]
  · rw [if_neg hs, h s hs]
/-- Which prefixes are marked: those of more than d steps, and of d steps those that a path begins with that was handed out. -/
def deepF (l : List Entry) (d : Nat) (dn : List (List UInt8)) (s : List UInt8) : Bool := begun l s && (decide (d < s.length) || (decide (s.length = d) && dn.any fun p => s.isPrefixOf p))
theorem deepF_next {l : List Entry} {d : Nat} {dn : List (List UInt8)} (h : ∀ x ∈ l, pathN x.name ∈ dn) (s : List UInt8) : deepF l (d + 1) dn s = deepF l d [] s := by
  unfold deepF
  cases hb : begun l s with
  | false => rfl
  | true =>
    obtain ⟨x, hx, hp⟩ := begun_ne hb
    have ha : (dn.any fun p => s.isPrefixOf p) = true := by
      rw [List.any_eq_true]
      exact ⟨_, h x hx, List.isPrefixOf_iff_prefix.2 hp⟩
    rw [ha]
    simp only [Bool.true_and, Bool.and_true, List.any_nil, Bool.and_false, Bool.or_false]
    rw [Bool.eq_iff_iff]
    simp only [Bool.or_eq_true, decide_eq_true_eq]
    omega
theorem deepF_last {l : List Entry} {dn : List (List UInt8)} (h : ∀ x ∈ l, pathN x.name ∈ dn) (s : List UInt8) : deepF l 0 dn s = begun l s := by
  unfold deepF
  cases hb : begun l s with
  | false => rfl
  | true =>
    obtain ⟨x, hx, hp⟩ := begun_ne hb
    have ha : (dn.any fun p => s.isPrefixOf p) = true := by
      rw [List.any_eq_true]
      exact ⟨_, h x hx, List.isPrefixOf_iff_prefix.2 hp⟩
    rw [ha]
    simp only [Bool.true_and, Bool.and_true]
    rw [Bool.eq_iff_iff]
    simp only [Bool.or_eq_true, decide_eq_true_eq]
    exact ⟨fun _ => trivial, fun _ => by omega⟩
theorem deepF_cons {l : List Entry} {d : Nat} {dn : List (List UInt8)} {p s : List UInt8} (hp : grp l p ≠ []) (hd : d ≤ 16) : (s = p.take d → deepF l d (p :: dn) s = true) ∧ (s ≠ p.take d → deepF l d (p :: dn) s = deepF l d dn s) := by
  obtain ⟨x, hx, he⟩ := grp_ne hp
  have h16 : p.length = 16 := by rw [← he, pathN_len]
  refine ⟨fun e => ?_, fun e => ?_⟩
  · subst e
    have hb : begun l (p.take d) = true := begun_path hx (by rw [he]; exact List.take_prefix _ _)
    have hl : (p.take d).length = d := by rw [List.length_take]; omega
    have ha : ((p :: dn).any fun p' => (p.take d).isPrefixOf p') = true := by
      rw [List.any_eq_true]
      exact ⟨p, List.mem_cons_self .., List.isPrefixOf_iff_prefix.2 (List.take_prefix _ _)⟩
    unfold deepF
    rw [hb, ha, hl]
    simp
  · unfold deepF
    by_cases hl : s.length = d
    · have hn : s.isPrefixOf p = false := by
        cases hc : s.isPrefixOf p with
        | false => rfl
        | true =>
          have := List.isPrefixOf_iff_prefix.1 hc
          rw [List.prefix_iff_eq_take, hl] at this
          exact absurd this e
      rw [List.any_cons, hn, Bool.false_or]
    · rw [decide_eq_false hl, Bool.false_and, Bool.false_and]
/-- The mark at the prefix is told already: nothing changes. -/
theorem lvlM_same {l : List Entry} {d : Nat} {dn : List (List UInt8)} {p : List UInt8} (hp : grp l p ≠ []) (hd : d ≤ 16) (h : (lvlM l (deepF l d dn) (p.take d)).isSome = true) : lvlM l (deepF l d dn) = lvlM l (deepF l d (p :: dn)) := by
  have hq : deepF l d dn (p.take d) = true := by
    unfold lvlM at h
    by_cases hc : deepF l d dn (p.take d) = true
    · exact hc
    · rw [if_neg hc] at h
      cases h
  funext s
  unfold lvlM
  by_cases hs : s = p.take d
  · rw [(deepF_cons hp hd).1 hs, hs, hq]
  · rw [(deepF_cons hp hd).2 hs]
theorem lvlM_more {l : List Entry} {d : Nat} {dn : List (List UInt8)} {p : List UInt8} (hp : grp l p ≠ []) (hd : d ≤ 16) : updM (lvlM l (deepF l d dn)) (p.take d) (mu (lvlN l (p.take d))) = lvlM l (deepF l d (p :: dn)) :=
  lvlM_upd ((deepF_cons hp hd).1 rfl) fun _ hs => (deepF_cons hp hd).2 hs
theorem deepF_under {l : List Entry} {d : Nat} {dn : List (List UInt8)} {q : List UInt8} (h : d < q.length) : deepF l d dn q = begun l q := by
  unfold deepF
  rw [decide_eq_true h, Bool.true_or, Bool.and_true]
/-- The leaves' marks. -/
def doneF (dn : List (List UInt8)) (s : List UInt8) : Bool := decide (s ∈ dn)
theorem lvlM_leaf {l : List Entry} {dn : List (List UInt8)} {p : List UInt8} (hp : grp l p ≠ []) : updM (lvlM l (doneF dn)) p (mu (markN (leafN (grp l p)))) = lvlM l (doneF (p :: dn)) := by
  obtain ⟨x, hx, he⟩ := grp_ne hp
  have h16 : p.length = 16 := by rw [← he, pathN_len]
  rw [← lvlN_leaf h16]
  refine lvlM_upd (by simp [doneF]) fun s hs => ?_
  unfold doneF
  rw [decide_eq_decide, List.mem_cons]
  exact ⟨fun h => h.resolve_left hs, .inr⟩
theorem lvlM_leaves {l : List Entry} {dn : List (List UInt8)} (h : ∀ x ∈ l, pathN x.name ∈ dn) (hk : ∀ s ∈ dn, grp l s ≠ []) : lvlM l (doneF dn) = lvlM l (deepF l 15 []) := by
  funext s
  unfold lvlM
  have e : doneF dn s = deepF l 15 [] s := by
    unfold doneF deepF
    rw [Bool.eq_iff_iff]
    simp only [decide_eq_true_eq, List.any_nil, Bool.and_false, Bool.or_false, Bool.and_eq_true]
    constructor
    · intro hs
      obtain ⟨x, hx, he⟩ := grp_ne (hk s hs)
      have h16 : s.length = 16 := by rw [← he, pathN_len]
      exact ⟨(begun_full (by omega)).2 (hk s hs), by omega⟩
    · rintro ⟨hb, hl⟩
      obtain ⟨x, hx, he⟩ := grp_ne ((begun_full (by omega)).1 hb)
      rw [← he]
      exact h x hx
  rw [e]
theorem lvlM_empty (l : List Entry) : lvlM l (doneF []) = fun _ => none := by
  funext s
  simp [lvlM, doneF]
theorem nodup_le {α : Type} [DecidableEq α] : ∀ {a b : List α}, a.Nodup → (∀ x ∈ a, x ∈ b) → a.length ≤ b.length
  | [], _, _, _ => Nat.zero_le _
  | x :: a, b, hn, h => by
    rw [List.nodup_cons] at hn
    have hx := h x (List.mem_cons_self ..)
    have hr := nodup_le (b := b.erase x) hn.2 fun y hy => by
      have hne : y ≠ x := by rintro rfl; exact hn.1 hy
      exact (List.mem_erase_of_ne hne).2 (h y (List.mem_cons_of_mem _ hy))
    rw [List.length_erase_of_mem hx] at hr
    have := List.length_pos_of_mem hx
    rw [List.length_cons]
    omega
theorem keys_le {l : List Entry} {dn : List (List UInt8)} (hn : dn.Nodup) (hk : ∀ s ∈ dn, grp l s ≠ []) : dn.length ≤ l.length := by
  have := nodup_le (b := l.map fun x => pathN x.name) hn fun s hs => by
    obtain ⟨x, hx, he⟩ := grp_ne (hk s hs)
    exact List.mem_map.2 ⟨x, hx, he⟩
  rwa [List.length_map] at this
/-- The groups, out of the map: each in a block of its own. -/
structure LvAt (e : TypeId) (F : Hp) (b0 : Nat) (L : List Entry) (m : List UInt8 → Option Value) : Prop where
  nil : ∀ s, grp L s = [] → m s = none
  any : ∀ s, grp L s ≠ [] → ∃ b n c, m s = some (.slice (some ⟨b, 0, none⟩) n c) ∧ SlAt F e 2 (some ⟨b, 0, none⟩) n c ((grp L s).flatMap Entry.row) ∧ b0 < b
  apart : ∀ s s' b n c n' c', m s = some (.slice (some ⟨b, 0, none⟩) n c) → m s' = some (.slice (some ⟨b, 0, none⟩) n' c') → s = s'
theorem LvAt.empty (e : TypeId) (F : Hp) (b0 : Nat) : LvAt e F b0 [] (fun _ => none) := ⟨fun _ _ => rfl, fun s h => absurd rfl h, fun _ _ _ _ _ _ _ h => by cases h⟩
/-- Nobody writes into the groups' blocks: they stay. -/
theorem LvAt.keep {e : TypeId} {F F' : Hp} {b0 : Nat} {L : List Entry} {m : List UInt8 → Option Value} (h : LvAt e F b0 L m) (hF : ∀ b cur, b0 < b → F b = some (.cells cur e (0, 0)) → F' b = some (.cells cur e (0, 0))) : LvAt e F' b0 L m := by
  refine ⟨h.nil, fun s hs => ?_, h.apart⟩
  obtain ⟨b, n, c, h1, h2, h3⟩ := h.any s hs
  refine ⟨b, n, c, h1, ?_, h3⟩
  obtain ⟨g1, g2, g3⟩ := h2
  refine ⟨g1, g2, ?_⟩
  rcases g3 with ⟨g4, _⟩ | ⟨b', cur, g4, g5, g6⟩
  · cases g4
  · cases g4
    exact .inr ⟨b, cur, rfl, hF b cur h3 g5, g6⟩
/-- What is found under a path: a slice. -/
theorem LvAt.find {e : TypeId} {F : Hp} {b0 : Nat} {L : List Entry} {m : List UInt8 → Option Value} (h : LvAt e F b0 L m) (s : List UInt8) : ∃ p c, (m s).getD (.slice none 0 0) = .slice p (grp L s).length c ∧ SlAt F e 2 p (grp L s).length c ((grp L s).flatMap Entry.row) ∧ (∀ b, p = some ⟨b, 0, none⟩ → b0 < b ∧ ∃ n c, m s = some (.slice (some ⟨b, 0, none⟩) n c)) := by
  by_cases hs : grp L s = []
  · rw [h.nil s hs, hs]
    exact ⟨none, 0, rfl, ⟨rfl, Nat.le_refl _, .inl ⟨rfl, rfl, rfl⟩⟩, fun b hb => by cases hb⟩
  · obtain ⟨b, n, c, h1, h2, h3⟩ := h.any s hs
    have hn : n = (grp L s).length := by
      have := h2.1
      rw [flat_len entry_row] at this
      omega
    subst hn
    exact ⟨_, c, by rw [h1]; rfl, h2, fun b' hb => by cases hb; exact ⟨h3, _, _, h1⟩⟩
/-- One entry more, behind those of its path. -/
theorem LvAt.step {e : TypeId} {F : Hp} {b0 : Nat} {L : List Entry} {m : List UInt8 → Option Value} (h : LvAt e F b0 L m) (x : Entry) {p : Option Addr} {b' c' : Nat} {o' o0 : Obj}
    (hp : ∀ b, p = some ⟨b, 0, none⟩ → b0 < b ∧ ∃ n c, m (pathN x.name) = some (.slice (some ⟨b, 0, none⟩) n c)) (hb : p = some ⟨b', 0, none⟩ ∨ F b' = none ∧ b0 < b')
    (hs : SlAt (F.plus b' o') e 2 (some ⟨b', 0, none⟩) ((grp L (pathN x.name)).length + 1) c' ((grp L (pathN x.name)).flatMap Entry.row ++ x.row)) :
    LvAt e ((F.plus b' o').plus b0 o0) b0 (L ++ [x]) (updM m (pathN x.name) (.slice (some ⟨b', 0, none⟩) ((grp L (pathN x.name)).length + 1) c')) := by
  have h0 : b0 < b' := by
    rcases hb with hb | hb
    · exact (hp b' hb).1
    · exact hb.2
  have hother : ∀ s n c, s ≠ pathN x.name → m s = some (.slice (some ⟨b', 0, none⟩) n c) → False := fun s n c hne hm => by
    rcases hb with hb | hb
    · obtain ⟨_, n', c'', hm'⟩ := hp b' hb
      exact hne (h.apart _ _ _ _ _ _ _ hm hm')
    · by_cases hg : grp L s = []
      · rw [h.nil s hg] at hm; cases hm
      · obtain ⟨b, n1, c1, h1, h2, h3⟩ := h.any s hg
        rw [hm] at h1
        cases h1
        obtain ⟨_, _, h5⟩ := h2
        rcases h5 with ⟨h6, _⟩ | ⟨b2, cur, h6, h7, _⟩
        · cases h6
        · cases h6
          rw [hb.1] at h7
          cases h7
  refine ⟨fun s hg => ?_, fun s hg => ?_, fun s s' b n c n' c'' h1 h2 => ?_⟩
  · rw [grp_snoc] at hg
    unfold updM
    by_cases hsx : pathN x.name = s
    · rw [if_pos hsx] at hg
      simp at hg
    · rw [if_neg hsx] at hg
      rw [if_neg (fun e => hsx e.symm)]
      exact h.nil s hg
  · rw [grp_snoc] at hg ⊢
    unfold updM
    by_cases hsx : pathN x.name = s
    · subst hsx
      rw [if_pos rfl, if_pos rfl]
      refine ⟨b', _, c', rfl, ?_, h0⟩
      rw [List.flatMap_append]
      have := hs.other (b := b0) (o := o0) fun b hb' => by cases hb'; omega
      simpa using this
    · rw [if_neg hsx] at hg
      rw [if_neg hsx, if_neg (fun e => hsx e.symm)]
      obtain ⟨b, n, c, h1, h2, h3⟩ := h.any s hg
      refine ⟨b, n, c, h1, ?_, h3⟩
      refine (h2.other (b := b') (o := o') fun b2 hb2 => ?_).other (b := b0) (o := o0) fun b2 hb2 => by cases hb2; omega
      cases hb2
      rintro rfl
      exact hother s n c (fun e => hsx e.symm) h1
  · unfold updM at h1 h2
    by_cases hs1 : s = pathN x.name
    · by_cases hs2 : s' = pathN x.name
      · rw [hs1, hs2]
      · rw [if_pos hs1] at h1
        rw [if_neg hs2] at h2
        cases h1
        exact (hother s' _ _ hs2 h2).elim
    · by_cases hs2 : s' = pathN x.name
      · rw [if_neg hs1] at h1
        rw [if_pos hs2] at h2
        cases h2
        exact (hother s _ _ hs1 h1).elim
      · rw [if_neg hs1] at h1
        rw [if_neg hs2] at h2
        exact h.apart _ _ _ _ _ _ _ h1 h2
theorem LvAt.key {e : TypeId} {F : Hp} {b0 : Nat} {L : List Entry} {m : List UInt8 → Option Value} (h : LvAt e F b0 L m) {s : List UInt8} {v : Value} (hm : m s = some v) : grp L s ≠ [] := fun hg => by
  rw [h.nil s hg] at hm
  cases hm
theorem LvAt.all {e : TypeId} {F : Hp} {b0 : Nat} {L : List Entry} {m : List UInt8 → Option Value} (h : LvAt e F b0 L m) {dn : List (List UInt8)} (hd : ∀ s v, m s = some v → s ∈ dn) : ∀ x ∈ L, pathN x.name ∈ dn := fun x hx => by
  obtain ⟨b, n, c, h1, _⟩ := h.any _ (grp_mem hx)
  exact hd _ _ h1
end Go.Proofs.YthkkgphjjmhglaaGreatDoor
