/- bounds.Work. -/
import Derived.Test.YtcjejcbikgcnbaaGiven
import Derived.Deep.RegionHeld3
namespace Go.Proofs.Ytcjejcbikgcnbaa
open Go.RowKit Go.Shelf

theorem fieldB_crew {t : Task} (h : fieldB t = true) : 0 ≤ t.crew ∧ t.crew ≤ 100 := by
  unfold fieldB betweenB at h
  simp only [Bool.and_eq_true, decide_eq_true_eq] at h
  exact h.1.2
theorem fieldB_pow {t : Task} (h : fieldB t = true) : 0 ≤ t.pow ∧ t.pow ≤ 100 := by
  unfold fieldB betweenB at h
  simp only [Bool.and_eq_true, decide_eq_true_eq] at h
  exact h.2

/-- The sum of a need times the length. -/
def needN (f : Task → Int) (l : List Task) : Int := (l.map fun t => f t * t.len).sum
def stepN (best s lim : Int) : Int := if 0 < s then (if best < (s + lim - 1) / lim then (s + lim - 1) / lim else best) else best
def workN (l : List Task) (c p : Int) : Int := stepN (stepN 0 (needN Task.crew l) c) (needN Task.pow l) p
theorem needN_take (f : Task → Int) (l : List Task) (j : Nat) (hj : j < l.length) : needN f (l.take (j + 1)) = needN f (l.take j) + f l[j] * l[j].len := by
  unfold needN
  rw [take_snoc l j hj, List.map_append, List.sum_append]
  simp
theorem needN_bd (f : Task → Int) : ∀ (l : List Task), (∀ t ∈ l, 0 ≤ f t * t.len ∧ f t * t.len ≤ 1000000) → 0 ≤ needN f l ∧ needN f l ≤ 1000000 * l.length
  | [], _ => by simp [needN]
  | t :: l, h => by
    have h1 := h t (by simp)
    have h2 := needN_bd f l fun t ht => h t (by simp [ht])
    have e : needN f (t :: l) = f t * t.len + needN f l := by simp [needN]
    rw [e, List.length_cons]
    omega
theorem mul_bd {a b : Int} (h1 : 0 ≤ a) (h2 : a ≤ 100) (h3 : 1 ≤ b) (h4 : b ≤ 10000) : 0 ≤ a * b ∧ a * b ≤ 1000000 := by
  refine ⟨Int.mul_nonneg h1 (by omega), ?_⟩
  have h5 : a * b ≤ 100 * b := Int.mul_le_mul_of_nonneg_right h2 (by omega)
  omega

theorem enters73 : ∀ args w, (callFunc 73 args).run Try.prog w = .ok (.enter 73 args) w := enters_of Try.func73 (by kernel_rfl) rfl
theorem enters74 : ∀ args w, (callFunc 74 args).run Try.prog w = .ok (.enter 74 args) w := enters_of Try.func74 (by kernel_rfl) rfl
theorem workCrew (t : Task) (w : World) : Calls Try.prog 73 #[t.val] w fun e w' => e = .returned (.int .i64 t.crew) ∧ Below w.heap.size w w' := by
  obtain ⟨name, len, crew, pow, ba, bc, bef⟩ := t
  unfold Task.val
  simp only
  go_enter Try.func73, Try.ntmps73
  go_wp2
  go_ret
  exact ⟨rfl, (Below.refl _ _).alloc (Nat.le_refl _) _⟩
theorem workPow (t : Task) (w : World) : Calls Try.prog 74 #[t.val] w fun e w' => e = .returned (.int .i64 t.pow) ∧ Below w.heap.size w w' := by
  obtain ⟨name, len, crew, pow, ba, bc, bef⟩ := t
  unfold Task.val
  simp only
  go_enter Try.func74, Try.ntmps74
  go_wp2
  go_ret
  exact ⟨rfl, (Below.refl _ _).alloc (Nat.le_refl _) _⟩

/-- The limit, the function and its number in each of the two rounds. -/
structure WorkRow (l : List Task) (c p : Int) (k : Nat) (lim : Int) (K : Nat) (f : Task → Int) : Prop where
  enters : ∀ args w, (callFunc K args).run Try.prog w = .ok (.enter K args) w
  call : ∀ (t : Task) (w : World), Calls Try.prog K #[t.val] w fun e w' => e = .returned (.int .i64 (f t)) ∧ Below w.heap.size w w'
  bd : ∀ t ∈ l, 0 ≤ f t ∧ f t ≤ 100
  fit : ∀ t ∈ l, f t ≤ lim
  limbd : lim ≤ 1000
def workAt (l : List Task) (c p : Int) : Nat → Int
  | 0 => 0
  | 1 => stepN 0 (needN Task.crew l) c
  | _ => workN l c p
theorem givenN_zero {l : List Task} {c p : Int} (h : givenN l c p = 0) : RightT l ∧ c ≤ 1000 ∧ p ≤ 1000 ∧ 0 ≤ c ∧ 0 ≤ p ∧ ∀ t ∈ l, t.crew ≤ c ∧ t.pow ≤ p := by
  unfold givenN at h
  cases hv : validB l c p with
  | false => rw [hv] at h; simp at h
  | true =>
    rw [hv] at h
    cases ha : l.any (tooMuch c p) with
    | true => rw [ha] at h; simp at h
    | false =>
      unfold validB betweenB at hv
      simp only [Bool.and_eq_true, decide_eq_true_eq] at hv
      refine ⟨(right_iff l).1 hv.1.1, hv.1.2.2, hv.2.2, hv.1.2.1, hv.2.1, fun t ht => ?_⟩
      have := List.any_eq_false.1 ha t ht
      unfold tooMuch at this
      simp only [Bool.or_eq_true, decide_eq_true_eq, not_or] at this
      omega
/-- The sum is positive only if the limit is. -/
theorem lim_pos {l : List Task} {c p lim : Int} {k K : Nat} {f : Task → Int} (h : WorkRow l c p k lim K f) (_hR : RightT l) (hs : 0 < needN f l) : 1 ≤ lim := by
  rcases Int.lt_or_le lim 1 with hl | hl
  · exfalso
    have : ∀ l' : List Task, (∀ t ∈ l', t ∈ l) → needN f l' = 0 := fun l' => by
      induction l' with
      | nil => intro _; rfl
      | cons t l' ih =>
        intro h'
        have h1 := h.bd t (h' t (by simp))
        have h2 := h.fit t (h' t (by simp))
        have e : f t = 0 := by omega
        have ih := ih fun t ht => h' t (by simp [ht])
        have e2 : needN f (t :: l') = f t * t.len + needN f l' := by simp [needN]
        rw [e2, ih, e]
        simp
    have := this l fun t ht => ht
    omega
  · exact hl

end Go.Proofs.Ytcjejcbikgcnbaa
