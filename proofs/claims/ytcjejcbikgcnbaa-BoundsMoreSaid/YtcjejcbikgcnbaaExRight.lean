/- The example's tasks are right. No program in sight. -/
import Derived.Test.YtcjejcbikgcnbaaExFacts
namespace Go.Proofs.Ytcjejcbikgcnbaa

theorem ex_right (g : Nat) : RightT (exTasks g) := by
  have hn : ∀ s, s = exA ∨ s = exB ∨ s = exC → nameB s = true := by
    rintro s (rfl | rfl | rfl) <;> decide
  have hd : distinct (exTasks g) = true := by
    have : names (exTasks g) = [exA, exB, exC] := rfl
    unfold distinct
    rw [this]
    decide
  have hne : exA ≠ exC := by decide
  refine { len := show 3 ≤ 8 by omega, field := fun i hi => ?_, dist := hd, bef := (befOK_iff _).2 fun t ht => ?_, acyc := ⟨id, fun k hk j hj => ?_⟩ }
  · have hi' : i < 3 := hi
    rcases (show i = 0 ∨ i = 1 ∨ i = 2 by omega) with rfl | rfl | rfl <;> simp [fieldB, exTasks, hn, betweenB]
  · simp only [exTasks, List.mem_cons, List.not_mem_nil, or_false] at ht
    rcases ht with rfl | rfl | rfl
    · exact Good.nil _ _
    · exact Good.nil _ _
    · exact ⟨by simp, fun s hs => by simp only [List.mem_singleton] at hs; subst hs; exact ⟨by simp [names, exTasks], hne⟩⟩
  · rw [getD_rows hk] at hj
    unfold pls at hj
    rw [List.mem_map] at hj
    obtain ⟨s, hs, rfl⟩ := hj
    have hk' : k < 3 := hk
    rcases (show k = 0 ∨ k = 1 ∨ k = 2 by omega) with rfl | rfl | rfl
    · simp [exTasks] at hs
    · simp [exTasks] at hs
    · have : s = exA := by simpa [exTasks] using hs
      subst this
      have := pl_name hd (show 0 < (exTasks g).length from (show 0 < 3 by omega))
      have e : (exTasks g)[0].name = exA := rfl
      rw [e] at this
      rw [this]
      simp
theorem ex_given (g : Nat) : givenN (exTasks g) 3 0 = 0 := by
  have h := (right_iff _).2 (ex_right g)
  unfold givenN validB
  rw [h]
  simp [betweenB, tooMuch, exTasks]

end Go.Proofs.Ytcjejcbikgcnbaa
