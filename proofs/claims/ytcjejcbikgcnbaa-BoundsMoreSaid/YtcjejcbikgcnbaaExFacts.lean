/- What is specified of the example. No program in sight. -/
import Derived.Test.YtcjejcbikgcnbaaExample
namespace Go.Proofs.Ytcjejcbikgcnbaa

theorem ex_edge {g i j : Nat} : edge (exTasks g) i j ↔ i = 0 ∧ j = 2 := by
  constructor
  · rintro ⟨hi, hj, h⟩
    have hi' : i < 3 := hi
    have hj' : j < 3 := hj
    rcases (show i = 0 ∨ i = 1 ∨ i = 2 by omega) with rfl | rfl | rfl <;> rcases (show j = 0 ∨ j = 1 ∨ j = 2 by omega) with rfl | rfl | rfl <;> first | exact ⟨rfl, rfl⟩ | (exfalso; revert h; simp [exTasks, exA, exB, exC])
  · rintro ⟨rfl, rfl⟩
    exact ⟨show 0 < 3 by omega, show 2 < 3 by omega, by simp [exTasks]⟩
theorem ex_chain {g : Nat} {z : List Nat} (h : Chain (exTasks g) z) : z = [] ∨ (∃ i, i < 3 ∧ z = [i]) ∨ z = [0, 2] := by
  match z, h with
  | [], _ => exact .inl rfl
  | [i], h => exact .inr (.inl ⟨i, h.1 i (by simp), rfl⟩)
  | [i, j], h =>
    obtain ⟨rfl, rfl⟩ := ex_edge.1 (Chain.cons_iff.1 h).1
    exact .inr (.inr rfl)
  | i :: j :: k :: t, h =>
    obtain ⟨h1, h2⟩ := Chain.cons_iff.1 h
    obtain ⟨rfl, rfl⟩ := ex_edge.1 h1
    have := ex_edge.1 (Chain.cons_iff.1 h2).1
    omega
theorem ex_sum {g : Nat} : lenAt (exTasks g) 0 = 5 ∧ lenAt (exTasks g) 1 = 3 ∧ lenAt (exTasks g) 2 = 4 := ⟨rfl, rfl, rfl⟩
theorem ex_good {g : Nat} : Chain (exTasks g) [0, 2] := Chain.cons_iff.2 ⟨ex_edge.2 ⟨rfl, rfl⟩, Chain.one (show 2 < 3 by omega)⟩
theorem ex_covers (g : Nat) : Covers (exTasks g) [3] 9 [0, 2] := by
  obtain ⟨s0, s1, s2⟩ := @ex_sum g
  refine ⟨ex_good, .inl (by omega), by simp [sumAt, s0, s2], fun z hz _ => ?_, fun z hz _ hs => ?_⟩
  · rcases ex_chain hz with rfl | ⟨i, hi, rfl⟩ | rfl
    · simp [sumAt]
    · rcases (show i = 0 ∨ i = 1 ∨ i = 2 by omega) with rfl | rfl | rfl <;> simp [sumAt, s0, s1, s2]
    · simp [sumAt, s0, s2]
  · rcases ex_chain hz with rfl | ⟨i, hi, rfl⟩ | rfl
    · simp [sumAt] at hs
    · rcases (show i = 0 ∨ i = 1 ∨ i = 2 by omega) with rfl | rfl | rfl <;> simp [sumAt, s0, s1, s2] at hs
    · exact .inl rfl
theorem ex_reach {g i k : Nat} : reach (exTasks g) i k ↔ i = 0 ∧ k = 2 := by
  constructor
  · rintro ⟨z, hz⟩
    rcases ex_chain hz with h | ⟨x, _, h⟩ | h
    · simp at h
    · have := congrArg List.length h
      simp at this
    · cases z with
      | nil => simpa using h
      | cons a z =>
        have := congrArg List.length h
        simp at this
  · rintro ⟨rfl, rfl⟩
    exact reach_one (ex_edge.2 ⟨rfl, rfl⟩)
theorem ex_excl {g i k : Nat} (hi : i < 3) (hk : k < i) : excl (exTasks g) 3 0 i k ↔ i = 1 ∧ k = 0 ∨ i = 2 ∧ k = 0 := by
  rcases (show i = 1 ∧ k = 0 ∨ i = 2 ∧ k = 0 ∨ i = 2 ∧ k = 1 by omega) with ⟨rfl, rfl⟩ | ⟨rfl, rfl⟩ | ⟨rfl, rfl⟩
  · exact ⟨fun _ => .inl ⟨rfl, rfl⟩, fun _ => ⟨show 1 < 3 by omega, show 0 < 3 by omega, .inr (.inr (.inl (by simp [exTasks])))⟩⟩
  · exact ⟨fun _ => .inr ⟨rfl, rfl⟩, fun _ => ⟨show 2 < 3 by omega, show 0 < 3 by omega, .inr (.inl (ex_reach.2 ⟨rfl, rfl⟩))⟩⟩
  · constructor
    · rintro ⟨_, _, h | h | h | h⟩
      · have := ex_reach.1 h; omega
      · have := ex_reach.1 h; omega
      · simp [exTasks] at h
      · simp [exTasks] at h
    · omega
theorem ex_work (g : Nat) : workN (exTasks g) 3 0 = 7 := by
  simp [workN, stepN, needN, exTasks]
theorem ex_heavy (g : Nat) : Heavy (exTasks g) 3 0 (2 ^ 3) 9 5 := by
  obtain ⟨s0, s1, s2⟩ := @ex_sum g
  have hno : ∀ z, (z = 6 ∨ z = 7) → ¬ isClique (exTasks g) 3 0 z (exTasks g).length := by
    rintro z (rfl | rfl) h
    · have := (ex_excl (by omega) (by omega)).1 (h 2 1 (show 2 < 3 by omega) (by omega) (by decide) (by decide)); omega
    · have := (ex_excl (by omega) (by omega)).1 (h 2 1 (show 2 < 3 by omega) (by omega) (by decide) (by decide)); omega
  have hs : ∀ z, z < 6 → sumAt (exTasks g) (memb z 3) ≤ 9 ∧ (z < 5 → sumAt (exTasks g) (memb z 3) < 9) := fun z hz => by
    rcases (show z = 0 ∨ z = 1 ∨ z = 2 ∨ z = 3 ∨ z = 4 ∨ z = 5 by omega) with rfl | rfl | rfl | rfl | rfl | rfl <;> simp [sumAt, memb, List.range_succ, s0, s1, s2, Nat.testBit]
  refine ⟨fun i k hi hk hi' hk' => ?_, show 5 < 2 ^ 3 by decide, by simp [sumAt, memb, exTasks, List.range_succ, Nat.testBit, lenAt, lens], fun z hz hc => ?_, fun z hz h5 hc => (hs z (by omega)).2 h5, .inr (by omega)⟩
  · have hi3 : i < 3 := hi
    rcases (show i = 1 ∧ k = 0 ∨ i = 2 ∧ k = 0 ∨ i = 2 ∧ k = 1 by omega) with ⟨rfl, rfl⟩ | ⟨rfl, rfl⟩ | ⟨rfl, rfl⟩
    · simp [Nat.testBit] at hi'
    · exact (ex_excl (by omega) (by omega)).2 (.inr ⟨rfl, rfl⟩)
    · simp [Nat.testBit] at hk'
  · rcases (show z < 6 ∨ z = 6 ∨ z = 7 by omega) with h | h
    · exact (hs z h).1
    · exact absurd hc (hno z h)

end Go.Proofs.Ytcjejcbikgcnbaa
