/- Chains of tasks, by their lists of indices; the lexicographic order; the longest chain. No program in sight. -/
import Derived.Test.YtcjejcbikgcnbaaAcyc
namespace Go.Proofs.Ytcjejcbikgcnbaa

/-- The lexicographic order of lists of indices, a beginning coming first. -/
def lex : List Nat → List Nat → Prop
  | _, [] => False
  | [], _ :: _ => True
  | a :: x, b :: y => a < b ∨ a = b ∧ lex x y
theorem lex_nil_iff (x : List Nat) : ¬ lex x [] := by cases x <;> exact id
theorem lex_irrefl : ∀ x, ¬ lex x x
  | [], h => h
  | a :: x, h => by
    rcases h with h | ⟨_, h⟩
    · omega
    · exact lex_irrefl x h
theorem lex_trans : ∀ {x y z : List Nat}, lex x y → lex y z → lex x z
  | _, [], _, h, _ => absurd h (lex_nil_iff _)
  | _, _ :: _, [], _, h => absurd h (lex_nil_iff _)
  | [], _ :: _, _ :: _, _, _ => trivial
  | a :: x, b :: y, c :: z, h, k => by
    rcases h with h | ⟨rfl, h⟩
    · rcases k with k | ⟨rfl, _⟩
      · exact .inl (by omega)
      · exact .inl h
    · rcases k with k | ⟨rfl, k⟩
      · exact .inl k
      · exact .inr ⟨rfl, lex_trans h k⟩
theorem lex_total : ∀ x y, lex x y ∨ x = y ∨ lex y x
  | [], [] => .inr (.inl rfl)
  | [], _ :: _ => .inl trivial
  | _ :: _, [] => .inr (.inr trivial)
  | a :: x, b :: y => by
    rcases Nat.lt_trichotomy a b with h | rfl | h
    · exact .inl (.inl h)
    · rcases lex_total x y with h | rfl | h
      · exact .inl (.inr ⟨rfl, h⟩)
      · exact .inr (.inl rfl)
      · exact .inr (.inr (.inr ⟨rfl, h⟩))
    · exact .inr (.inr (.inl h))
theorem lex_snoc (x : List Nat) (a : Nat) : lex x (x ++ [a]) := by
  induction x with
  | nil => trivial
  | cons b x ih => exact .inr ⟨rfl, ih⟩
/-- Below 'x, 0': x itself, and what is below x. -/
theorem lex_zero : ∀ (z x : List Nat), lex z (x ++ [0]) ↔ lex z x ∨ z = x
  | [], [] => by simp [lex]
  | a :: z, [] => by simp [lex, lex_nil_iff]
  | [], b :: x => by simp [lex]
  | a :: z, b :: x => by
    have ih := lex_zero z x
    simp only [List.cons_append, lex, List.cons.injEq, ih]
    constructor
    · rintro (h | ⟨h, h' | h'⟩)
      · exact .inl (.inl h)
      · exact .inl (.inr ⟨h, h'⟩)
      · exact .inr ⟨h, h'⟩
    · rintro ((h | ⟨h, h'⟩) | ⟨h, h'⟩)
      · exact .inl h
      · exact .inr ⟨h, .inl h'⟩
      · exact .inr ⟨h, .inr h'⟩
/-- Below 'x, a + 1': what is below 'x, a', and what begins with it. -/
theorem lex_succ : ∀ (z x : List Nat) (a : Nat), lex z (x ++ [a + 1]) ↔ lex z (x ++ [a]) ∨ (x ++ [a]) <+: z
  | [], [], a => by simp [lex]
  | b :: z, [], a => by
    simp only [List.nil_append, lex, lex_nil_iff, and_false, or_false, List.cons_prefix_cons, List.nil_prefix, and_true]
    omega
  | [], c :: x, a => by simp [lex]
  | b :: z, c :: x, a => by
    have ih := lex_succ z x a
    simp only [List.cons_append, lex, ih, List.cons_prefix_cons]
    constructor
    · rintro (h | ⟨h, h' | h'⟩)
      · exact .inl (.inl h)
      · exact .inl (.inr ⟨h, h'⟩)
      · exact .inr ⟨h.symm, h'⟩
    · rintro ((h | ⟨h, h'⟩) | ⟨h, h'⟩)
      · exact .inl h
      · exact .inr ⟨h, .inl h'⟩
      · exact .inr ⟨h.symm, .inr h'⟩
/-- With elements below N: what begins with x, or is below it, is below 'x, N'. -/
theorem lex_top : ∀ (z x : List Nat) (N : Nat), (∀ i ∈ z, i < N) → (lex z (x ++ [N]) ↔ lex z x ∨ x <+: z)
  | [], [], N, _ => by simp [lex]
  | b :: z, [], N, h => by
    have := h b (by simp)
    simp [lex, this, lex_nil_iff]
  | [], c :: x, N, _ => by simp [lex]
  | b :: z, c :: x, N, h => by
    have ih := lex_top z x N (fun i hi => h i (by simp [hi]))
    simp only [List.cons_append, lex, ih, List.cons_prefix_cons]
    constructor
    · rintro (h | ⟨h, h' | h'⟩)
      · exact .inl (.inl h)
      · exact .inl (.inr ⟨h, h'⟩)
      · exact .inr ⟨h.symm, h'⟩
    · rintro ((h | ⟨h, h'⟩) | ⟨h, h'⟩)
      · exact .inl h
      · exact .inr ⟨h, .inl h'⟩
      · exact .inr ⟨h.symm, .inr h'⟩

/-! ### Chains -/
/-- Task i is in the Before of task k. -/
def edge (l : List Task) (i k : Nat) : Prop := ∃ (hi : i < l.length) (hk : k < l.length), l[i].name ∈ l[k].bef
def Chain (l : List Task) (x : List Nat) : Prop := (∀ i ∈ x, i < l.length) ∧ ∀ j (h : j + 1 < x.length), edge l (x[j]'(by omega)) x[j + 1]
def lenAt (l : List Task) (i : Nat) : Int := (lens l).getD i 0
def sumAt (l : List Task) (x : List Nat) : Int := (x.map (lenAt l)).sum
theorem Chain.nil (l : List Task) : Chain l [] := ⟨by simp, fun j h => by simp at h⟩
theorem Chain.one {l : List Task} {i : Nat} (h : i < l.length) : Chain l [i] := ⟨by simpa using h, fun j h => by simp at h⟩
theorem Chain.snoc {l : List Task} {x : List Nat} {i : Nat} (h : Chain l x) (hi : i < l.length) (he : ∀ hx : x ≠ [], edge l (x.getLast hx) i) : Chain l (x ++ [i]) := by
  refine ⟨fun j hj => ?_, fun j hj => ?_⟩
  · rw [List.mem_append, List.mem_singleton] at hj
    rcases hj with hj | rfl
    · exact h.1 j hj
    · exact hi
  · rw [List.length_append, List.length_singleton] at hj
    by_cases hlt : j + 1 < x.length
    · have := h.2 j hlt
      rw [List.getElem_append_left (by omega), List.getElem_append_left hlt]
      exact this
    · have hx : x ≠ [] := by rintro rfl; simp at hj
      have := he hx
      rw [List.getElem_append_left (by omega), List.getElem_append_right (by omega)]
      simp only [List.getElem_singleton]
      rw [List.getLast_eq_getElem] at this
      have e : x.length - 1 = j := by omega
      simp only [e] at this
      exact this
theorem Chain.front {l : List Task} {x y : List Nat} (h : Chain l (x ++ y)) : Chain l x := by
  refine ⟨fun i hi => h.1 i (List.mem_append_left _ hi), fun j hj => ?_⟩
  have := h.2 j (by rw [List.length_append]; omega)
  rw [List.getElem_append_left (by omega), List.getElem_append_left hj] at this
  exact this
theorem Chain.last_edge {l : List Task} {x : List Nat} {i : Nat} (h : Chain l (x ++ [i])) (hx : x ≠ []) : edge l (x.getLast hx) i := by
  have hl : 0 < x.length := List.length_pos_iff.2 hx
  have := h.2 (x.length - 1) (by rw [List.length_append, List.length_singleton]; omega)
  rw [List.getElem_append_left (by omega), List.getElem_append_right (by omega)] at this
  simp only [List.getElem_singleton] at this
  rw [List.getLast_eq_getElem]
  exact this
theorem sumAt_snoc (l : List Task) (x : List Nat) (i : Nat) : sumAt l (x ++ [i]) = sumAt l x + lenAt l i := by simp [sumAt]
theorem sumAt_nil (l : List Task) : sumAt l [] = 0 := rfl
theorem lenAt_eq {l : List Task} {i : Nat} (h : i < l.length) : lenAt l i = l[i].len := getD_lens h

/-- The best chain of those below b: the greatest sum; of several the least. -/
structure Covers (l : List Task) (b : List Nat) (L : Int) (y : List Nat) : Prop where
  chain : Chain l y
  below : lex y b
  sum : sumAt l y = L
  most : ∀ z, Chain l z → lex z b → sumAt l z ≤ L
  least : ∀ z, Chain l z → lex z b → sumAt l z = L → y = z ∨ lex y z
theorem Covers.start (l : List Task) : Covers l [0] 0 [] := by
  have h0 : ∀ z, lex z [0] → z = [] := fun z h => by
    have := (lex_zero z []).1 h
    rcases this with h | h
    · exact absurd h (lex_nil_iff z)
    · exact h
  exact ⟨Chain.nil l, trivial, rfl, fun z _ h => by rw [h0 z h]; exact Int.le_refl _, fun z _ h _ => .inl (h0 z h).symm⟩
/-- The chain x itself is tried. -/
theorem Covers.visit {l : List Task} {x y : List Nat} {L : Int} (h : Covers l x L y) (hx : Chain l x) : Covers l (x ++ [0]) (if L < sumAt l x then sumAt l x else L) (if L < sumAt l x then x else y) := by
  by_cases hlt : L < sumAt l x
  · rw [if_pos hlt, if_pos hlt]
    refine ⟨hx, lex_snoc x 0, rfl, fun z hz hb => ?_, fun z hz hb hs => ?_⟩
    · rcases (lex_zero z x).1 hb with hb | rfl
      · have := h.most z hz hb; omega
      · exact Int.le_refl _
    · rcases (lex_zero z x).1 hb with hb | rfl
      · have := h.most z hz hb; omega
      · exact .inl rfl
  · rw [if_neg hlt, if_neg hlt]
    refine ⟨h.chain, (lex_zero y x).2 (.inl h.below), h.sum, fun z hz hb => ?_, fun z hz hb hs => ?_⟩
    · rcases (lex_zero z x).1 hb with hb | rfl
      · exact h.most z hz hb
      · omega
    · rcases (lex_zero z x).1 hb with hb | rfl
      · exact h.least z hz hb hs
      · exact .inr h.below
/-- Bounds below which there are the same chains. -/
theorem Covers.same {l : List Task} {b b' y : List Nat} {L : Int} (h : Covers l b L y) (hb : ∀ z, Chain l z → (lex z b' ↔ lex z b)) : Covers l b' L y :=
  ⟨h.chain, (hb y h.chain).2 h.below, h.sum, fun z hz hl => h.most z hz ((hb z hz).1 hl), fun z hz hl hs => h.least z hz ((hb z hz).1 hl) hs⟩
theorem Covers.next_no {l : List Task} {x y : List Nat} {i : Nat} {L : Int} (h : Covers l (x ++ [i]) L y) (hno : ¬ Chain l (x ++ [i])) : Covers l (x ++ [i + 1]) L y :=
  h.same fun z hz => by
    rw [lex_succ]
    constructor
    · rintro (h | ⟨t, rfl⟩)
      · exact h
      · exact absurd hz.front hno
    · exact .inl
theorem Covers.next_yes {l : List Task} {x y : List Nat} {i : Nat} {L : Int} (h : Covers l (x ++ [i] ++ [l.length]) L y) : Covers l (x ++ [i + 1]) L y :=
  h.same fun z hz => by rw [lex_succ, lex_top z (x ++ [i]) l.length hz.1]
/-- There is one longest chain. -/
theorem Covers.uniq {l : List Task} {b y y' : List Nat} {L L' : Int} (h : Covers l b L y) (h' : Covers l b L' y') : L = L' ∧ y = y' := by
  have e : L = L' := by
    have h1 := h.most y' h'.chain h'.below
    have h2 := h'.most y h.chain h.below
    have h3 := h.sum
    have h4 := h'.sum
    omega
  subst e
  refine ⟨rfl, ?_⟩
  rcases h.least y' h'.chain h'.below h'.sum with e | e
  · exact e
  · rcases h'.least y h.chain h.below h.sum with e' | e'
    · exact e'.symm
    · exact absurd (lex_trans e e') (lex_irrefl _)

/-! ### Chains of right tasks are short -/
theorem edge_row {l : List Task} (hd : distinct l = true) {i k : Nat} (h : edge l i k) : (i : Int) ∈ (rowsOf l).getD k [] := by
  obtain ⟨hi, hk, hm⟩ := h
  rw [getD_rows hk]
  unfold pls
  rw [List.mem_map]
  exact ⟨_, hm, pl_name hd hi⟩
theorem Chain.rank {l : List Task} (hR : RightT l) {x : List Nat} (h : Chain l x) : ∃ rank : Nat → Nat, ∀ a b (hb : b < x.length) (hab : a < b), rank (x[a]'(by omega)) < rank x[b] := by
  obtain ⟨rank, hr⟩ := hR.acyc
  refine ⟨rank, fun a b hb hab => ?_⟩
  induction b with
  | zero => omega
  | succ b ih =>
    have he := h.2 b hb
    have h1 := hr _ he.2.1 _ (edge_row hR.dist he)
    rw [Int.toNat_natCast] at h1
    by_cases e : a = b
    · subst e; exact h1
    · have := ih (by omega) (by omega)
      omega
theorem Chain.nodup {l : List Task} (hR : RightT l) {x : List Nat} (h : Chain l x) : x.Nodup := by
  obtain ⟨rank, hr⟩ := h.rank hR
  rw [List.Nodup, List.pairwise_iff_getElem]
  intro i j hi hj hij e
  have := hr i j hj hij
  rw [e] at this
  omega
theorem Chain.short {l : List Task} (hR : RightT l) {x : List Nat} (h : Chain l x) : x.length ≤ l.length := by
  have := List.Nodup.length_le_of_subset (h.nodup hR) (l₂ := List.range l.length) (fun i hi => List.mem_range.2 (h.1 i hi))
  simpa using this
theorem lenAt_bd {l : List Task} (hR : RightT l) (i : Nat) : 0 ≤ lenAt l i ∧ lenAt l i ≤ 10000 := by
  by_cases hi : i < l.length
  · rw [lenAt_eq hi]
    have := fieldB_len (hR.field i hi)
    omega
  · unfold lenAt
    rw [List.getD_eq_getElem?_getD, List.getElem?_eq_none (by unfold lens; rw [List.length_map]; omega)]
    simp
theorem sumAt_bd {l : List Task} (hR : RightT l) (x : List Nat) : 0 ≤ sumAt l x ∧ sumAt l x ≤ 10000 * x.length := by
  induction x with
  | nil => simp [sumAt]
  | cons i x ih =>
    have := lenAt_bd hR i
    simp only [sumAt, List.map_cons, List.sum_cons, List.length_cons] at ih ⊢
    omega

end Go.Proofs.Ytcjejcbikgcnbaa
