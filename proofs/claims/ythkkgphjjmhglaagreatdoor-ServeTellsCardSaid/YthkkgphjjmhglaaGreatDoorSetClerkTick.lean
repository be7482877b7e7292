/-
What package clerk computes, plainly.
-/
import Derived.Test.YthkkgphjjmhglaaGreatDoorSetQueue
import Derived.Test.YthkkgphjjmhglaaGreatDoorSetBits
import Derived.Test.YthkkgphjjmhglaaGreatDoorChain3
import Derived.Test.YthkkgphjjmhglaaGreatDoorSetOrdMath
import Derived.Test.YthkkgphjjmhglaaGreatDoorSetProofTell
import Derived.Test.YthkkgphjjmhglaaGreatDoorLevMath
/-!
What package clerk computes, plainly.
-/
namespace Go.Proofs.YthkkgphjjmhglaaGreatDoor
set_option linter.unusedVariables false
set_option linter.unusedSimpArgs false
open Go.TR
structure Clerk where
  queue : Queue
  batch : Int
  every : Int
  now : Int
  heads : List Head
  books : List (List Entry)
deriving DecidableEq
def Clerk.none : Clerk := ⟨⟨0, []⟩, 0, 0, 0, [], []⟩
structure Clerk.wf (c : Clerk) : Prop where
  queue : c.queue.wf
  heads : ∀ x ∈ c.heads, x.wf
  hlen : c.heads.length ≤ 4398046511104
  blen : c.books.length ≤ 8796093022208
  now : -9223372036854775808 ≤ c.now ∧ c.now ≤ 9223372036854775807
  books : ∀ l ∈ c.books, l.length ≤ 4398046511104 ∧ ∀ x ∈ l, x.wf
/-- A book with its place. -/
abbrev Bk := Option Addr × List Entry × Nat
@[reducible] def Bk.v (s : Bk) : Value := .slice s.1 s.2.1.length s.2.2
def Bk.at (F : Hp) (s : Bk) : Prop := True ∧ Frow F s.1 (s.2.1.flatMap Entry.row)
/-- Where a clerk's parts lie. -/
structure CLay where
  w : Option Addr
  cw : Nat
  h : Option Addr
  ch : Nat
  b : Option Addr
  cb : Nat
@[reducible] def Clerk.v (c : Clerk) (a : CLay) : Value := .agg #[i64 c.queue.most, .slice a.w c.queue.wait.length a.cw, i64 c.batch, i64 c.every, i64 c.now, .slice a.h c.heads.length a.ch, .slice a.b c.books.length a.cb]
structure Clerk.at (c : Clerk) (F : Hp) (a : CLay) : Prop where
  w : Frow F a.w (c.queue.wait.flatMap Ask.cells)
  cw : c.queue.wait.length ≤ a.cw
  h : Frow F a.h (c.heads.flatMap Head.row)
  ch : c.heads.length ≤ a.ch
  cb : c.books.length ≤ a.cb
  b : ∃ bs : List Bk, bs.map (·.2.1) = c.books ∧ Frow F a.b (bs.map Bk.v) ∧ ∀ s ∈ bs, Bk.at F s
theorem Bk.at_sub {F F' : Hp} (h : F.sub F') {s : Bk} (k : Bk.at F s) : Bk.at F' s := ⟨k.1, frow_sub h k.2⟩
theorem Clerk.at_sub {F F' : Hp} (h : F.sub F') {c : Clerk} {a : CLay} (k : c.at F a) : c.at F' a := by
  obtain ⟨bs, h1, h2, h3⟩ := k.b
  exact ⟨frow_sub h k.w, k.cw, frow_sub h k.h, k.ch, k.cb, bs, h1, frow_sub h h2, fun s hs => Bk.at_sub h (h3 s hs)⟩
def CLay.nil : CLay := ⟨.none, 0, .none, 0, .none, 0⟩
/-- What is wrong with the first book that is wrong. -/
def rootsF : List Head → List (List Entry) → Int
  | h :: hs, b :: bs => if bookFault b ≠ 0 then bookFault b else if lvlN b [] ≠ h.root then 8 else rootsF hs bs
  | _, _ => 0
def formB (c : Clerk) : Bool := decide ((c.heads.getD 0 Head.none).epoch ≠ 0) || decide (c.books.length ≠ c.heads.length) || decide (c.now < (lastH c.heads).at_)
def booksF (c : Clerk) : Int := if formB c = true then 3 else rootsF c.heads c.books
def lastB (c : Clerk) : List Entry := c.books.getLastD []
def namesL (c : Clerk) (more : List (List UInt8)) : List (List UInt8) := (lastB c).map Entry.name ++ c.queue.wait.map Ask.name ++ more
def namesN (c : Clerk) (more : List (List UInt8)) : Nat := (ordN (namesL c more)).length
def spanB (c : Clerk) : Bool := decide (c.batch < 1) || decide (30 < c.batch) || decide (c.every < 1) || decide (1000 < c.every) || decide (c.now < 0) || decide (1000000000 < c.now)
def clerkF (c : Clerk) : Int := if queueFault c.queue ≠ 0 then queueFault c.queue else if spanB c = true then 4 else if (chainF c.heads).1 ≠ 0 then (chainF c.heads).1 else if booksF c ≠ 0 then booksF c else if 24 < namesN c [] then 7 else 0
def closedB (c : Clerk) : Bool := decide (c.heads.length = 40) || decide (c.now = 1000000000)
def askE (c : Clerk) (a : Ask) : Int := if clerkF c ≠ 0 then clerkF c else if askFault a.name a.value ≠ 0 then askFault a.name a.value else if closedB c = true then 9 else if (c.queue.wait.length : Int) = c.queue.most ∨ 24 < namesN c [a.name] then 7 else 0
def askC (c : Clerk) (a : Ask) : Clerk := if askE c a = 0 then { c with queue := ⟨c.queue.most, c.queue.wait ++ [a]⟩ } else Clerk.none
def askT (c : Clerk) (a : Ask) : Int := if askE c a = 0 then c.now - c.now % c.every + ((c.queue.wait.length : Int) / c.batch + 1) * c.every else 0
/-- Who is taken at a tick. -/
def takenL (c : Clerk) : List Ask := c.queue.wait.take c.batch.toNat
def setsL (l : List Entry) (asks : List Ask) : List Entry := asks.foldl (fun b a => setL b a.name a.value) l
def nextB (c : Clerk) : List Entry := setsL (lastB c) (takenL c)
def nextHd (c : Clerk) : Head := ⟨(lastH c.heads).epoch + 1, lvlN (nextB c) [], (lastH c.heads).mark, c.now + 1⟩
def dueB (c : Clerk) : Bool := !closedB c && decide ((c.now + 1) % c.every = 0)
def tickB (c : Clerk) : Bool := decide (clerkF c = 0) && dueB c
def tickC (c : Clerk) : Clerk := if clerkF c ≠ 0 then Clerk.none else if closedB c = true then c else if dueB c = true then ⟨⟨c.queue.most, c.queue.wait.drop c.batch.toNat⟩, c.batch, c.every, c.now + 1, c.heads ++ [nextHd c], c.books ++ [nextB c]⟩ else { c with now := c.now + 1 }
def bookE (c : Clerk) (n : Int) : Int := if clerkF c ≠ 0 then clerkF c else if n < 0 ∨ (c.books.length : Int) ≤ n then 4 else 0
def bookO (c : Clerk) (n : Int) : List Entry := if bookE c n = 0 then c.books.getD n.toNat [] else []
def newBad (most batch every : Int) : Bool := decide (most < 1) || decide (30 < most) || decide (batch < 1) || decide (30 < batch) || decide (every < 1) || decide (1000 < every)
def newE (most batch every : Int) : Int := if newBad most batch every = true then 4 else 0
def newC (most batch every : Int) : Clerk := if newBad most batch every = true then Clerk.none else ⟨⟨most, []⟩, batch, every, 0, [⟨0, lvlN [] [], 0, 0⟩], [[]]⟩
/-! What a clerk without fault is. -/
theorem rootsF_zero : ∀ {hs : List Head} {bs : List (List Entry)}, bs.length ≤ hs.length → rootsF hs bs = 0 → ∀ b ∈ bs, bookFault b = 0
  | _, [], _, _, b, hb => by cases hb
  | [], _ :: _, h, _, _, _ => by simp at h
  | h :: hs, c :: bs, hl, hz, b, hb => by
    unfold rootsF at hz
    split at hz
    · rename_i h0; exact absurd hz h0
    · rename_i h0
      split at hz
      · cases hz
      · rcases List.mem_cons.1 hb with rfl | hb
        · exact Classical.not_not.1 h0
        · exact rootsF_zero (by simpa using hl) hz b hb
structure Good (c : Clerk) : Prop where
  queue : queueFault c.queue = 0
  span : spanB c = false
  chain : (chainF c.heads).1 = 0
  form : formB c = false
  roots : rootsF c.heads c.books = 0
  names : namesN c [] ≤ 24
theorem clerkF_zero {c : Clerk} (h : clerkF c = 0) : Good c := by
  unfold clerkF at h
  split at h
  · rename_i h0; exact absurd h h0
  · rename_i h0
    split at h
    · cases h
    · rename_i h1
      split at h
      · rename_i h2; exact absurd h h2
      · rename_i h2
        split at h
        · rename_i h3; exact absurd h h3
        · rename_i h3
          split at h
          · cases h
          · rename_i h4
            have h3 : booksF c = 0 := Classical.not_not.1 h3
            unfold booksF at h3
            split at h3
            · cases h3
            · rename_i h5
              exact ⟨Classical.not_not.1 h0, by simpa using h1, Classical.not_not.1 h2, by simpa using h5, h3, by omega⟩
theorem Good.fault {c : Clerk} (h : Good c) : clerkF c = 0 := by
  have h3 : booksF c = 0 := by unfold booksF; rw [h.form]; exact h.roots
  unfold clerkF
  rw [if_neg (by rw [h.queue]; decide), h.span, if_neg (by decide), if_neg (by rw [h.chain]; decide), if_neg (by rw [h3]; decide), if_neg (by have := h.names; omega)]
theorem Good.lens {c : Clerk} (h : Good c) : c.books.length = c.heads.length ∧ 0 < c.heads.length ∧ c.heads.length ≤ 40 := by
  obtain ⟨h1, h2, _⟩ := chainF_zero h.chain
  have := h.form
  unfold formB at this
  simp only [Bool.or_eq_false_iff, decide_eq_false_iff_not, ne_eq, Classical.not_not] at this
  exact ⟨this.1.2, by omega, h2⟩
theorem Good.book {c : Clerk} (h : Good c) : ∀ b ∈ c.books, bookFault b = 0 := rootsF_zero (by rw [h.lens.1]; exact Nat.le_refl _) h.roots
theorem Good.times {c : Clerk} (h : Good c) : 1 ≤ c.batch ∧ c.batch ≤ 30 ∧ 1 ≤ c.every ∧ c.every ≤ 1000 ∧ 0 ≤ c.now ∧ c.now ≤ 1000000000 := by
  have := h.span
  unfold spanB at this
  simp only [Bool.or_eq_false_iff, decide_eq_false_iff_not] at this
  omega
theorem lastB_mem {c : Clerk} (h : 0 < c.books.length) : lastB c ∈ c.books := by
  unfold lastB
  cases hb : c.books with
  | nil => rw [hb] at h; cases h
  | cons a t => rw [List.getLastD_cons]; exact List.getLastD_mem_cons
theorem Good.last {c : Clerk} (h : Good c) : bookFault (lastB c) = 0 := h.book _ (lastB_mem (by have := h.lens; omega))
end Go.Proofs.YthkkgphjjmhglaaGreatDoor
/-!
A tick of a clerk without fault: no name that waits is refused, and the heads grow. Plainly.
-/
namespace Go.Proofs.YthkkgphjjmhglaaGreatDoor
set_option linter.unusedVariables false
set_option linter.unusedSimpArgs false
open Go.TR
theorem rise_nodup : ∀ {l : List (List UInt8)}, Rise l → l.Nodup
  | [], _ => List.nodup_nil
  | a :: t, h => by
    obtain ⟨h1, h2⟩ := List.pairwise_cons.1 h
    refine List.nodup_cons.2 ⟨fun ha => ?_, rise_nodup h2⟩
    have := h1 a ha
    rw [ahead_irr] at this
    cases this
theorem book_rise {l : List Entry} (h : Book l) : Rise (l.map Entry.name) := by
  unfold Rise
  rw [List.pairwise_map]
  exact h
theorem book_names {l : List Entry} (h : Book l) {L : List (List UInt8)} (hs : ∀ x ∈ l, x.name ∈ L) : l.length ≤ (ordN L).length := by
  have := nodup_le (a := l.map Entry.name) (b := ordN L) (rise_nodup (book_rise h)) (fun s hs' => by
    obtain ⟨x, hx, rfl⟩ := List.mem_map.1 hs'
    exact (ordN_mem L _).2 (hs x hx))
  simpa using this
theorem asks_ok : ∀ {l : List Ask}, asksFault l = 0 → ∀ a ∈ l, askFault a.name a.value = 0
  | [], _, a, ha => by cases ha
  | b :: t, h, a, ha => by
    unfold asksFault at h
    split at h
    · rename_i h0
      rcases List.mem_cons.1 ha with rfl | ha
      · exact h0
      · exact asks_ok h a ha
    · rename_i h0; exact absurd h h0
theorem queue_zero {q : Queue} (h : queueFault q = 0) : 1 ≤ q.most ∧ q.most ≤ 30 ∧ (q.wait.length : Int) ≤ q.most ∧ ∀ a ∈ q.wait, askFault a.name a.value = 0 := by
  unfold queueFault at h
  split at h
  · cases h
  · split at h
    · cases h
    · exact ⟨by omega, by omega, by omega, asks_ok h⟩
theorem ask_good {n v : List UInt8} (h : askFault n v = 0) : goodName n = true ∧ v.length ≤ 20 := by
  unfold askFault at h
  split at h
  · rename_i h0
    split at h
    · cases h
    · exact ⟨h0, by omega⟩
  · cases h
/-- A name that is one of at most 24 can be set. -/
theorem set_may {l : List Entry} (h0 : bookFault l = 0) {L : List (List UInt8)} (hL : (ordN L).length ≤ 24) (hs : ∀ x ∈ l, x.name ∈ L) {n v : List UInt8} (hn : n ∈ L) (ha : askFault n v = 0) : setE l n v = 0 := by
  obtain ⟨hg, hv⟩ := ask_good ha
  have hf : findE l n = 0 := by unfold findE; rw [if_neg (by rw [h0]; decide), if_pos hg]
  unfold setE
  rw [if_neg (by rw [hf]; decide), if_neg (by rw [ha]; decide)]
  refine if_neg ?_
  rintro ⟨h1, h2⟩
  have hb := book_of h0
  have h3 := book_names (set_book hb n v) (L := L) (fun x hx => by
    rcases set_mem hb hx with rfl | ⟨hx, _⟩
    · exact hn
    · exact hs x hx)
  rw [set_len hb, h1] at h3
  simp only [Bool.false_eq_true, if_false] at h3
  omega
theorem sets_may {L : List (List UInt8)} (hL : (ordN L).length ≤ 24) : ∀ {asks : List Ask} {l : List Entry}, bookFault l = 0 → (∀ x ∈ l, x.name ∈ L) → (∀ a ∈ asks, a.name ∈ L ∧ askFault a.name a.value = 0) →
    bookFault (setsL l asks) = 0 ∧ (∀ x ∈ setsL l asks, x.name ∈ L) ∧ ∀ (k : Nat) (hk : k < asks.length), setE (setsL l (asks.take k)) asks[k].name asks[k].value = 0
  | [], l, h0, hs, _ => ⟨h0, hs, fun k hk => by simp at hk⟩
  | a :: t, l, h0, hs, ha => by
    obtain ⟨ha1, ha2⟩ := ha a (by simp)
    have he := set_may h0 hL hs ha1 ha2
    obtain ⟨f1, f2⟩ := set_fault he
    obtain ⟨r1, r2, r3⟩ := sets_may hL (asks := t) (l := setL l a.name a.value) f1 (fun x hx => by
      rcases f2 x hx with rfl | hx
      · exact ha1
      · exact hs x hx) (fun b hb => ha b (by simp [hb]))
    refine ⟨r1, r2, fun k hk => ?_⟩
    cases k with
    | zero => exact he
    | succ k => exact r3 k (by simpa using hk)
theorem Good.names_last {c : Clerk} (h : Good c) : ∀ x ∈ lastB c, x.name ∈ namesL c [] := fun x hx => by
  unfold namesL
  simp only [List.append_nil, List.mem_append]
  exact .inl (List.mem_map_of_mem hx)
theorem Good.names_wait {c : Clerk} (h : Good c) : ∀ a ∈ c.queue.wait, a.name ∈ namesL c [] ∧ askFault a.name a.value = 0 := fun a ha => by
  refine ⟨?_, (queue_zero h.queue).2.2.2 a ha⟩
  unfold namesL
  simp only [List.append_nil, List.mem_append]
  exact .inr (List.mem_map_of_mem ha)
theorem Good.sets {c : Clerk} (h : Good c) : bookFault (nextB c) = 0 ∧ (∀ x ∈ nextB c, x.name ∈ namesL c []) ∧ ∀ (k : Nat) (hk : k < (takenL c).length), setE (setsL (lastB c) ((takenL c).take k)) (takenL c)[k].name (takenL c)[k].value = 0 :=
  sets_may (L := namesL c []) h.names h.last h.names_last (fun a ha => h.names_wait a (List.mem_of_mem_take ha))
theorem lastH_get {l : List Head} (h : 0 < l.length) : lastH l = l[l.length - 1] := by
  unfold lastH
  rw [List.getLastD_eq_getLast?, List.getLast?_eq_getElem?, List.getElem?_eq_getElem (by omega)]
  rfl
theorem Good.top {c : Clerk} (h : Good c) : (lastH c.heads).fault = 0 ∧ (lastH c.heads).epoch = (c.heads.length : Int) - 1 ∧ (lastH c.heads).at_ ≤ c.now := by
  obtain ⟨h1, h2, h3, h4, _⟩ := chainF_zero h.chain
  have hf := h.form
  unfold formB at hf
  simp only [Bool.or_eq_false_iff, decide_eq_false_iff_not, ne_eq, Classical.not_not] at hf
  have e0 : (c.heads[0]'h1).epoch = 0 := by
    have := hf.1.1
    simpa [List.getD, h1] using this
  have hl := lastH_get h1
  have he := unl_epoch h4 (c.heads.length - 1) (by omega)
  rw [hl]
  refine ⟨h3 _ (List.getElem_mem _), by rw [he, e0]; omega, ?_⟩
  have := hf.2
  rw [hl] at this
  omega
theorem Head.fault_zero {h : Head} (h0 : 0 ≤ h.epoch) (h1 : h.epoch ≤ 1000000) (h2 : h.root < MM) (h3 : h.prev < MM) (h4 : 0 ≤ h.at_) (h5 : h.at_ ≤ 1000000000) (h6 : h.epoch = 0 → h.prev = 0) : h.fault = 0 := by
  have b1 : h.bad1 = false := by
    unfold Head.bad1
    simp only [Bool.or_eq_false_iff, decide_eq_false_iff_not]
    omega
  have b2 : h.bad2 = false := by
    unfold Head.bad2
    by_cases e : h.epoch = 0
    · simp [e, h6 e]
    · simp [e]
  unfold Head.fault
  rw [b1, b2]
  rfl
/-- The next head of a clerk that is due. -/
theorem Good.next {c : Clerk} (h : Good c) (hc : closedB c = false) {root : Nat} (hr : root < MM) : (lastH c.heads).nextE root (c.now + 1) = 0 ∧ ((lastH c.heads).nextH root (c.now + 1)).orNone 0 = ⟨(lastH c.heads).epoch + 1, root, (lastH c.heads).mark, c.now + 1⟩ ∧ growE c.heads root (c.now + 1) = 0 ∧ growL c.heads root (c.now + 1) = c.heads ++ [⟨(lastH c.heads).epoch + 1, root, (lastH c.heads).mark, c.now + 1⟩] := by
  obtain ⟨l1, l2, l3⟩ := h.top
  obtain ⟨_, t2, t3⟩ := h.lens
  have tm := h.times
  unfold closedB at hc
  simp only [Bool.or_eq_false_iff, decide_eq_false_iff_not] at hc
  have eO : (lastH c.heads).markO = (lastH c.heads).mark := by unfold Head.markO; rw [if_pos l1]
  have ew : IntKind.i64.wrap ((lastH c.heads).epoch + 1) = (lastH c.heads).epoch + 1 := wrap_i64 (by omega) (by omega)
  have eN : (lastH c.heads).nextH root (c.now + 1) = ⟨(lastH c.heads).epoch + 1, root, (lastH c.heads).mark, c.now + 1⟩ := by unfold Head.nextH; rw [ew, eO]
  have e0 : (lastH c.heads).nextE root (c.now + 1) = 0 := by
    unfold Head.nextE
    rw [if_neg (by rw [l1]; decide), if_neg (by omega), if_neg (by omega), eN]
    exact Head.fault_zero (by simp only; omega) (by simp only; omega) hr (markN_lt _) (by simp only; omega) (by simp only; omega) (fun e => by simp only at e; omega)
  have e1 : growE c.heads root (c.now + 1) = 0 := by unfold growE; rw [if_neg (by rw [h.chain]; decide), if_neg hc.1, e0]
  have e2 : ((lastH c.heads).nextH root (c.now + 1)).orNone 0 = ⟨(lastH c.heads).epoch + 1, root, (lastH c.heads).mark, c.now + 1⟩ := by rw [eN]; rfl
  refine ⟨e0, e2, e1, ?_⟩
  unfold growL
  rw [if_pos e1, e0, e2]
theorem lvlN_MM (l : List Entry) (s : List UInt8) : lvlN l s < MM := by
  have h : ∀ n s, lvl l n s < MM := fun n s => by cases n <;> exact markN_lt _
  exact h _ _
end Go.Proofs.YthkkgphjjmhglaaGreatDoor
