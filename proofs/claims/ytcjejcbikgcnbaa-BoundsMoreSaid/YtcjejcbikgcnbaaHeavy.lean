/- The heaviest clique, by sets of tasks as numbers. No program in sight. -/
import Derived.Test.YtcjejcbikgcnbaaExcl
namespace Go.Proofs.Ytcjejcbikgcnbaa

/-- Two tasks exclude one another. -/
def excl (l : List Task) (c p : Int) (i k : Nat) : Prop := ∃ (hi : i < l.length) (hk : k < l.length), reach l i k ∨ reach l k i ∨ c < l[i].crew + l[k].crew ∨ p < l[i].pow + l[k].pow
theorem excl_symm {l : List Task} {c p : Int} {i k : Nat} (h : excl l c p i k) : excl l c p k i := by
  obtain ⟨hi, hk, h⟩ := h
  refine ⟨hk, hi, ?_⟩
  rcases h with h | h | h | h
  · exact .inr (.inl h)
  · exact .inl h
  · exact .inr (.inr (.inl (by omega)))
  · exact .inr (.inr (.inr (by omega)))
theorem exclT_iff {l : List Task} {c p : Int} {i k : Nat} {b : Nat → Nat → Bool} (hS : Stage l l.length 0 0 b) (hi : i < l.length) (hk : k < l.length) : exclT b l[i] l[k] c p i k = true ↔ excl l c p i k := by
  unfold exclT
  simp only [Bool.or_eq_true, decide_eq_true_eq, hS.done hi hk, hS.done hk hi]
  constructor
  · rintro (((h | h) | h) | h)
    · exact ⟨hi, hk, .inl h⟩
    · exact ⟨hi, hk, .inr (.inl h)⟩
    · exact ⟨hi, hk, .inr (.inr (.inl h))⟩
    · exact ⟨hi, hk, .inr (.inr (.inr h))⟩
  · rintro ⟨_, _, h | h | h | h⟩
    · exact .inl (.inl (.inl h))
    · exact .inl (.inl (.inr h))
    · exact .inl (.inr h)
    · exact .inr h

/-- The members below n of a set, in order. -/
def memb (s n : Nat) : List Nat := (List.range n).filter fun i => s.testBit i
theorem memb_zero (s : Nat) : memb s 0 = [] := rfl
theorem memb_succ (s n : Nat) : memb s (n + 1) = if s.testBit n then memb s n ++ [n] else memb s n := by
  unfold memb
  rw [List.range_succ, List.filter_append]
  cases h : s.testBit n <;> simp [h]
theorem mem_memb {s n i : Nat} : i ∈ memb s n ↔ i < n ∧ s.testBit i = true := by
  unfold memb
  rw [List.mem_filter, List.mem_range]
/-- A set's members below n exclude one another. -/
def isClique (l : List Task) (c p : Int) (s n : Nat) : Prop := ∀ i k, i < n → k < i → s.testBit i = true → s.testBit k = true → excl l c p i k
/-- The heaviest clique of the sets below S: of several the first one. -/
structure Heavy (l : List Task) (c p : Int) (S : Nat) (L : Int) (s : Nat) : Prop where
  clique : isClique l c p s l.length
  low : s < 2 ^ l.length
  sum : sumAt l (memb s l.length) = L
  most : ∀ z, z < S → isClique l c p z l.length → sumAt l (memb z l.length) ≤ L
  first : ∀ z, z < S → z < s → isClique l c p z l.length → sumAt l (memb z l.length) < L
  below : s = 0 ∨ s < S
theorem memb_none (n : Nat) : memb 0 n = [] := by
  unfold memb
  simp
theorem Heavy.start (l : List Task) (c p : Int) : Heavy l c p 0 0 0 := by
  refine ⟨fun i k _ _ h => by simp at h, Nat.two_pow_pos _, by rw [memb_none, sumAt_nil], fun z hz => absurd hz (Nat.not_lt_zero z), fun z hz => absurd hz (Nat.not_lt_zero z), .inl rfl⟩
theorem Heavy.no {l : List Task} {c p : Int} {S s : Nat} {L : Int} (h : Heavy l c p S L s) (hno : ¬ isClique l c p S l.length) : Heavy l c p (S + 1) L s := by
  refine ⟨h.clique, h.low, h.sum, fun z hz hc => ?_, fun z hz hs hc => ?_, ?_⟩
  · by_cases e : z = S
    · subst e; exact absurd hc hno
    · exact h.most z (by omega) hc
  · by_cases e : z = S
    · subst e; exact absurd hc hno
    · exact h.first z (by omega) hs hc
  · rcases h.below with h | h
    · exact .inl h
    · exact .inr (by omega)
theorem Heavy.less {l : List Task} {c p : Int} {S s : Nat} {L : Int} (h : Heavy l c p S L s) (hno : ¬ L < sumAt l (memb S l.length)) : Heavy l c p (S + 1) L s := by
  refine ⟨h.clique, h.low, h.sum, fun z hz hc => ?_, fun z hz hs hc => ?_, ?_⟩
  · by_cases e : z = S
    · subst e; omega
    · exact h.most z (by omega) hc
  · by_cases e : z = S
    · subst e
      rcases h.below with h | h <;> omega
    · exact h.first z (by omega) hs hc
  · rcases h.below with h | h
    · exact .inl h
    · exact .inr (by omega)
theorem Heavy.more {l : List Task} {c p : Int} {S s : Nat} {L : Int} (h : Heavy l c p S L s) (hS : S < 2 ^ l.length) (hc : isClique l c p S l.length) (hlt : L < sumAt l (memb S l.length)) : Heavy l c p (S + 1) (sumAt l (memb S l.length)) S := by
  refine ⟨hc, hS, rfl, fun z hz hc' => ?_, fun z hz hs hc' => ?_, .inr (by omega)⟩
  · by_cases e : z = S
    · subst e; exact Int.le_refl _
    · have := h.most z (by omega) hc'; omega
  · have := h.most z hs hc'; omega
theorem Heavy.uniq {l : List Task} {c p : Int} {s s' : Nat} {L L' : Int} (h : Heavy l c p (2 ^ l.length) L s) (h' : Heavy l c p (2 ^ l.length) L' s') : L = L' ∧ s = s' := by
  have e : L = L' := by
    have h1 := h.most s' h'.low h'.clique
    have h2 := h'.most s h.low h.clique
    have h3 := h.sum
    have h4 := h'.sum
    omega
  subst e
  refine ⟨rfl, ?_⟩
  rcases Nat.lt_trichotomy s s' with hlt | e | hlt
  · have := h'.first s h.low hlt h.clique
    have := h.sum
    omega
  · exact e
  · have := h.first s' h'.low hlt h'.clique
    have := h'.sum
    omega

end Go.Proofs.Ytcjejcbikgcnbaa
