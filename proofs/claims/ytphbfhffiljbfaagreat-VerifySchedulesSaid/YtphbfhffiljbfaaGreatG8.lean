/- Parts of the proof, laid into one text: Put, Search, Visit, Least. -/
import Derived.Shelf.Sort.Plain
import Derived.Sort.OwnSortedInts
import Derived.Test.YtphbfhffiljbfaaGreatG1
import Derived.Test.YtphbfhffiljbfaaGreatG2
import Derived.Test.YtphbfhffiljbfaaGreatG4

/- schedule: a task gets its least start. -/
namespace Go.Proofs.YtphbfhffiljbfaaGreat
open Go.RowKit Go.Shelf

/-- The greatest end of the tasks of a row. -/
def firstN (l : List Task) (s : List Int) (r : List Int) : Int := r.foldl (fun a k => max2 a (endN l s k.toNat)) 0
/-- The times that are tried: the first, and the later ends of the tasks below k. -/
def timesTo (l : List Task) (s : List Int) (f : Int) : Nat → List Int
  | 0 => [f]
  | k + 1 => if 0 ≤ atI s k ∧ f < endN l s k then timesTo l s f k ++ [endN l s k] else timesTo l s f k
def rowAt (l : List Task) (i : Nat) : List Int := (rowsOf l).getD i []
def timesN (l : List Task) (s : List Int) (i : Nat) : List Int := (timesTo l s (firstN l s (rowAt l i)) l.length).mergeSort fun x y => decide (x ≤ y)
/-- The start that a task gets. -/
def PutT (l : List Task) (c p : Int) (s : List Int) (i : Nat) (t : Int) : Prop := (timesN l s i).find? (fun x => wholeB l c p (s.set i x) i) = some t

theorem max2_max (a b : Int) : max2 a b = max a b := by unfold max2; split <;> omega
theorem firstN_snoc {l : List Task} {s r : List Int} {m : Nat} (h : m < r.length) : firstN l s (r.take (m + 1)) = max2 (firstN l s (r.take m)) (endN l s r[m].toNat) := by
  unfold firstN
  rw [take_snoc r m h, List.foldl_append]
  rfl
theorem firstN_bd {l : List Task} {s : List Int} {M : Int} (hM : 0 ≤ M) : ∀ (m : Nat) {r : List Int}, (∀ k ∈ r, endN l s k.toNat ≤ M) → m ≤ r.length → 0 ≤ firstN l s (r.take m) ∧ firstN l s (r.take m) ≤ M
  | 0, r, _, _ => by simp [firstN, hM]
  | m + 1, r, h, hm => by
    have h1 := firstN_bd hM m h (by omega)
    have h2 := h _ (List.getElem_mem (show m < r.length by omega))
    rw [firstN_snoc (by omega)]
    unfold max2
    split <;> omega
theorem timesTo_len {l : List Task} {s : List Int} {f : Int} : ∀ k, (timesTo l s f k).length ≤ k + 1 ∧ 0 < (timesTo l s f k).length
  | 0 => by simp [timesTo]
  | k + 1 => by
    have h := timesTo_len (l := l) (s := s) (f := f) k
    unfold timesTo
    split
    · rw [List.length_append, List.length_singleton]; omega
    · omega
theorem timesTo_bd {l : List Task} {s : List Int} {f M : Int} (hf : 0 ≤ f ∧ f ≤ M) (hs : ∀ k, k < l.length → endN l s k ≤ M) : ∀ k, k ≤ l.length → ∀ x ∈ timesTo l s f k, 0 ≤ x ∧ x ≤ M
  | 0, _, x, hx => by simp only [timesTo, List.mem_singleton] at hx; omega
  | k + 1, hk, x, hx => by
    have h := timesTo_bd hf hs k (by omega)
    unfold timesTo at hx
    split at hx
    · rename_i h'
      rcases List.mem_append.1 hx with hx | hx
      · exact h x hx
      · have := hs k (by omega)
        simp only [List.mem_singleton] at hx
        omega
    · exact h x hx

end Go.Proofs.YtphbfhffiljbfaaGreat

/- schedule: the search for the shortest starts, plain. -/
namespace Go.Proofs.YtphbfhffiljbfaaGreat
open Go.RowKit Go.Shelf

/-- A task k has no start yet. -/
def unB (s : List Int) (k : Int) : Bool := decide (atI s k.toNat < 0)
/-- Task i is not to be placed next. -/
def skipB (l : List Task) (s : List Int) (i : Nat) : Bool := decide (0 ≤ atI s i) || (rowAt l i).any (unB s)
def putN (l : List Task) (c p : Int) (s : List Int) (i : Nat) : Int := ((timesN l s i).find? (fun x => wholeB l c p (s.set i x) i)).getD 0
/-- The search: m tasks are to be placed; b is the best so far. -/
def srch (l : List Task) (c p : Int) : Nat → List Int → Int × List Int → Int × List Int
  | 0, s, b => if b.1 < 0 ∨ lenPl l s l.length < b.1 then (lenPl l s l.length, s) else b
  | m + 1, s, b => (List.range l.length).foldl (fun b i => if skipB l s i then b else srch l c p m (s.set i (putN l c p s i)) b) b

theorem atI_set_self {s : List Int} {i : Nat} {x : Int} (h : i < s.length) : atI (s.set i x) i = x := by
  unfold atI
  rw [List.getD_eq_getElem?_getD, List.getElem?_set_self h]
  rfl
theorem atI_set_ne {s : List Int} {i k : Nat} {x : Int} (h : i ≠ k) : atI (s.set i x) k = atI s k := by
  unfold atI
  rw [List.getD_eq_getElem?_getD, List.getElem?_set_ne h, List.getD_eq_getElem?_getD]
theorem endN_set_self {l : List Task} {s : List Int} {i : Nat} {x : Int} (h : i < s.length) : endN l (s.set i x) i = x + lenAt l i := by unfold endN; rw [atI_set_self h]
theorem endN_set_ne {l : List Task} {s : List Int} {i k : Nat} {x : Int} (h : i ≠ k) : endN l (s.set i x) k = endN l s k := by unfold endN; rw [atI_set_ne h]

/-- A first start makes no plan shorter. -/
theorem lenPl_set {l : List Task} {s : List Int} {i : Nat} {x : Int} (hi : i < s.length) (hs : atI s i < 0) : ∀ k, lenPl l s k ≤ lenPl l (s.set i x) k
  | 0 => Int.le_refl _
  | k + 1 => by
    have h := lenPl_set (l := l) (x := x) hi hs k
    have E : ∀ s, lenPl l s (k + 1) = if 0 ≤ atI s k then max2 (lenPl l s k) (endN l s k) else lenPl l s k := fun _ => rfl
    by_cases e : i = k
    · subst e
      rw [E, E, if_neg (show ¬ 0 ≤ atI s i by omega)]
      split
      · rw [max2_max]; omega
      · exact h
    · rw [E, E, atI_set_ne e, endN_set_ne e]
      split
      · rw [max2_max, max2_max]; omega
      · exact h
theorem skip_no {l : List Task} {s : List Int} {i : Nat} (h : skipB l s i = false) : atI s i < 0 ∧ (rowAt l i).any (unB s) = false := by
  unfold skipB at h
  simp only [Bool.or_eq_false_iff, decide_eq_false_iff_not] at h
  exact ⟨by omega, h.2⟩
/-- Beneath a plan as long as the best nothing is better. -/
theorem srch_prune {l : List Task} {c p : Int} : ∀ (m : Nat) (s : List Int) (b : Int × List Int), s.length = l.length → 0 ≤ b.1 → b.1 ≤ lenPl l s l.length → srch l c p m s b = b
  | 0, s, b, _, h1, h2 => by
    unfold srch
    rw [if_neg (by omega)]
  | m + 1, s, b, hl, h1, h2 => by
    unfold srch
    have H : ∀ (r : List Nat), (∀ i ∈ r, i < l.length) → r.foldl (fun b i => if skipB l s i then b else srch l c p m (s.set i (putN l c p s i)) b) b = b := by
      intro r
      induction r with
      | nil => intro _; rfl
      | cons i r ih =>
        intro hr
        rw [List.foldl_cons]
        have hi := hr i (by simp)
        cases hk : skipB l s i with
        | true => exact ih fun j hj => hr j (by simp [hj])
        | false =>
          have := skip_no hk
          have h3 := lenPl_set (l := l) (x := putN l c p s i) (by omega) this.1 l.length
          rw [if_neg (by simp), srch_prune m _ b (by simpa using hl) h1 (by omega)]
          exact ih fun j hj => hr j (by simp [hj])
    exact H _ fun i hi => List.mem_range.1 hi
/-- The fold of the first k. -/
def srchTo (l : List Task) (c p : Int) (m : Nat) (s : List Int) (b : Int × List Int) (k : Nat) : Int × List Int :=
  (List.range k).foldl (fun b i => if skipB l s i then b else srch l c p m (s.set i (putN l c p s i)) b) b
theorem srchTo_succ {l : List Task} {c p : Int} {m : Nat} {s : List Int} {b : Int × List Int} {k : Nat} :
    srchTo l c p m s b (k + 1) = if skipB l s k then srchTo l c p m s b k else srch l c p m (s.set k (putN l c p s k)) (srchTo l c p m s b k) := by
  unfold srchTo
  rw [List.range_succ, List.foldl_append]
  rfl

/-! ### A task that needs no more than the limits gets a start. -/
theorem timesTo_mem {l : List Task} {s : List Int} {f : Int} : ∀ k, f ∈ timesTo l s f k ∧ ∀ j, j < k → 0 ≤ atI s j → f < endN l s j → endN l s j ∈ timesTo l s f k
  | 0 => ⟨by simp [timesTo], fun j hj => absurd hj (by omega)⟩
  | k + 1 => by
    have h := timesTo_mem (l := l) (s := s) (f := f) k
    unfold timesTo
    split
    · rename_i h'
      refine ⟨List.mem_append_left _ h.1, fun j hj h1 h2 => ?_⟩
      by_cases e : j = k
      · subst e; simp
      · exact List.mem_append_left _ (h.2 j (by omega) h1 h2)
    · rename_i h'
      refine ⟨h.1, fun j hj h1 h2 => ?_⟩
      by_cases e : j = k
      · subst e; exact absurd ⟨h1, h2⟩ h'
      · exact h.2 j (by omega) h1 h2
/-- Every list that is not empty has a greatest element. -/
theorem most_mem : ∀ (T : List Int), T ≠ [] → ∃ t ∈ T, ∀ x ∈ T, x ≤ t
  | [], h => absurd rfl h
  | [a], _ => ⟨a, by simp, by simp⟩
  | a :: b :: r, _ => by
    obtain ⟨t, ht, h⟩ := most_mem (b :: r) (by simp)
    by_cases e : a ≤ t
    · exact ⟨t, List.mem_cons_of_mem _ ht, fun x hx => by 
        rcases List.mem_cons.1 hx with rfl | hx
        · exact e
        · exact h x hx⟩
    · exact ⟨a, List.mem_cons_self .., fun x hx => by
        rcases List.mem_cons.1 hx with rfl | hx
        · exact Int.le_refl _
        · have := h x hx; omega⟩
theorem usedTo_alone {f : Task → Int} {l : List Task} {s : List Int} {t : Int} {i : Nat} (h : ∀ k, k < l.length → k ≠ i → onB l s t k = false) : ∀ k, k ≤ l.length → usedTo f l s t k = if i < k ∧ onB l s t i then fAt f l i else 0
  | 0, _ => by simp [usedTo]
  | k + 1, hk => by
    have ih := usedTo_alone (f := f) h k (by omega)
    by_cases e : k = i
    · subst e
      rw [usedTo, ih, if_neg (show ¬ (k < k ∧ onB l s t k = true) by omega)]
      by_cases h2 : onB l s t k = true
      · rw [if_pos h2, if_pos ⟨by omega, h2⟩]; omega
      · rw [if_neg h2, if_neg (fun h => h2 h.2)]; omega
    · rw [usedTo, ih, h k (by omega) e]
      simp only [Bool.false_eq_true, if_false, Int.add_zero]
      by_cases h2 : i < k ∧ onB l s t i = true
      · rw [if_pos h2, if_pos (show i < k + 1 ∧ onB l s t i = true from ⟨by omega, h2.2⟩)]
      · rw [if_neg h2, if_neg (show ¬ (i < k + 1 ∧ onB l s t i = true) from fun h => h2 ⟨by omega, h.2⟩)]
theorem foldl_max_ge (f : Int → Int) : ∀ (r : List Int) (a : Int), a ≤ r.foldl (fun a k => max a (f k)) a
  | [], a => Int.le_refl _
  | x :: r, a => by
    have := foldl_max_ge f r (max a (f x))
    rw [List.foldl_cons]
    omega
theorem put_exists {l : List Task} {c p : Int} {s : List Int} {i : Nat} (hR : RightT l) (hc : 0 ≤ c ∧ 0 ≤ p) (hfit : l.any (tooMuch c p) = false) (hl : s.length = l.length) (hi : i < l.length) : PutT l c p s i (putN l c p s i) := by
  suffices H : ∃ t ∈ timesN l s i, wholeB l c p (s.set i t) i = true by
    obtain ⟨t, ht, hw⟩ := H
    unfold PutT putN
    cases hfd : (timesN l s i).find? (fun x => wholeB l c p (s.set i x) i) with
    | none => have := List.find?_eq_none.1 hfd t ht; simp [hw] at this
    | some x => rfl
  have hTm : ∀ x, x ∈ timesN l s i ↔ x ∈ timesTo l s (firstN l s (rowAt l i)) l.length := fun x => (List.mergeSort_perm _ _).mem_iff
  have hmem := timesTo_mem (l := l) (s := s) (f := firstN l s (rowAt l i)) l.length
  have hne : timesN l s i ≠ [] := fun e => by
    have := (hTm _).2 hmem.1
    rw [e] at this
    cases this
  obtain ⟨t, ht, hmost⟩ := most_mem _ hne
  have hfirst := hmost _ ((hTm _).2 hmem.1)
  have hend : ∀ k, k < l.length → 0 ≤ atI s k → endN l s k ≤ t := fun k hk h0 => by
    by_cases h1 : firstN l s (rowAt l i) < endN l s k
    · exact hmost _ ((hTm _).2 (hmem.2 k hk h0 h1))
    · omega
  refine ⟨t, ht, ?_⟩
  have hlen := fun k (hk : k < l.length) => fieldB_len (hR.field k hk)
  have hoff : ∀ k, k < l.length → k ≠ i → onB l (s.set i t) t k = false := fun k hk hki => by
    unfold onB
    rw [atI_set_ne (Ne.symm hki), endN_set_ne (Ne.symm hki)]
    by_cases h0 : 0 ≤ atI s k
    · have := hend k hk h0
      rw [decide_eq_false (show ¬ t < endN l s k by omega), Bool.and_false]
    · rw [decide_eq_false h0, Bool.false_and, Bool.false_and]
  have hno := List.any_eq_false.1 hfit _ (List.getElem_mem hi)
  unfold tooMuch at hno
  simp only [Bool.or_eq_true, decide_eq_true_eq, not_or] at hno
  have hfits : fitsB l c p (s.set i t) t = true := by
    unfold fitsB
    rw [usedTo_alone hoff _ (Nat.le_refl _), usedTo_alone hoff _ (Nat.le_refl _), fAt_get hi, fAt_get hi]
    simp only [Bool.and_eq_true, decide_eq_true_eq]
    constructor <;> split <;> omega
  unfold wholeB
  rw [atI_set_self (by omega), hfits, Bool.true_and, Bool.not_eq_true', List.any_eq_false]
  intro x hx
  unfold badB
  rw [atI_set_self (by omega), endN_set_self (by omega)]
  simp only [Bool.and_eq_true, decide_eq_true_eq, not_and, Bool.not_eq_true', Bool.not_eq_false]
  rintro ⟨h1, h2⟩
  exfalso
  obtain ⟨k, hk, rfl⟩ := List.mem_iff_getElem.1 hx
  rw [List.length_set] at hk
  have hti : 0 ≤ t := by
    have : 0 ≤ firstN l s (rowAt l i) := by
      have := foldl_max_ge (fun k : Int => endN l s k.toNat) (rowAt l i) 0
      unfold firstN
      simp only [max2_max]
      exact this
    omega
  by_cases e : k = i
  · subst e
    rw [List.getElem_set_self] at h1
    omega
  · rw [List.getElem_set_ne (Ne.symm e)] at h1
    have h3 := atI_get (s := s) hk
    have h4 := hend k (by omega) (by omega)
    have h5 := hlen k (by omega)
    unfold endN at h4
    rw [lenAt_eq (by omega)] at h4
    omega

end Go.Proofs.YtphbfhffiljbfaaGreat

/- schedule: the search for the shortest starts, walked. -/
namespace Go.Proofs.YtphbfhffiljbfaaGreat
open Go.RowKit Go.Shelf

theorem blk_ne {w : World} {a b : Nat} {t u : TypeId} {x y : Array Value} (h : Blk w a t x) (k : Blk w b u y) (hne : t ≠ u) : a ≠ b := by
  rintro rfl
  unfold Blk at h k
  rw [h] at k
  injection k with k
  injection k with _ k
  exact hne k

section
variable {w w' : World} {B W g O S Pb Bb Lb Ob Vb : Nat} {l : List Task} {c p : Int} {tv : Value} {cs : List Value} {s s' : List Int} {b : Int × List Int} {outv : Value}
theorem PlanO.far (h : PlanO w B g l c p tv O S cs s) {r : Nat} (hg : w.grownBy w' (some r)) (h1 : g ≠ r) (h2 : O ≠ r) (h3 : S ≠ r) (h4 : ∀ j (hj : j < cs.length), cs[j].ownBlock ≠ some r) (h5 : B ≤ r) : PlanO w' B g l c p tv O S cs s :=
  ⟨h.blk.kept hg (by simpa using h1), ⟨h.rows.own.kept hg (.inr (by simpa [Value.ownBlock] using h2)), fun j hj hc hji => (h.rows.rows j hj hc hji).kept hg (.inr (h4 j hc)), h.rows.rest⟩, h.st.kept hg (by simpa using h3),
    h.tasks.below ((Below.refl B w).grown hg h.low.2.2 (fun k hk => by cases hk; exact h5)) (Nat.le_refl _), h.len, h.bd, ⟨h.low.1, h.low.2.1, Nat.le_trans h.low.2.2 hg.size⟩, h.apart⟩
end

end Go.Proofs.YtphbfhffiljbfaaGreat

/- schedule.Least. -/
namespace Go.Proofs.YtphbfhffiljbfaaGreat
open Go.RowKit Go.Shelf

/-- What Least finds. -/
def leastN (l : List Task) (c p : Int) : Int × List Int := srch l c p l.length (List.replicate l.length (-1)) (-1, [])
def LeastPost (l : List Task) (c p : Int) (w : World) (e : Ending) (w' : World) : Prop :=
  Below w.heap.size w w' ∧
    ((validB l c p = false ∧ e = .returned (.tuple #[.int .i64 0, .slice none 0 0, .int .i64 1])) ∨
     (validB l c p = true ∧ l.any (tooMuch c p) = true ∧ e = .returned (.tuple #[.int .i64 0, .slice none 0 0, .int .i64 22])) ∨
     (validB l c p = true ∧ l.any (tooMuch c p) = false ∧ ∃ A cap, e = .returned (.tuple #[.int .i64 (leastN l c p).1, .slice A (leastN l c p).2.length cap, .int .i64 0]) ∧
       w'.ownsRow w.heap.size 3 1 (.slice A (leastN l c p).2.length cap) (leastN l c p).2.length ((leastN l c p).2.map (Value.int .i64))))

end Go.Proofs.YtphbfhffiljbfaaGreat
