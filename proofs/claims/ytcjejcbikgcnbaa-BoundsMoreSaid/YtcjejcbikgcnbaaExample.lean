/- The law's example. -/
import Derived.Test.YtcjejcbikgcnbaaBest
namespace Go.Proofs.Ytcjejcbikgcnbaa
open Go.RowKit Go.Shelf

def exA : ByteArray := ⟨#[97]⟩
def exB : ByteArray := ⟨#[98]⟩
def exC : ByteArray := ⟨#[99]⟩
/-- The tasks of the example; their Before lies in block g. -/
def exTasks (g : Nat) : List Task := [⟨exA, 5, 2, 0, none, 0, []⟩, ⟨exB, 3, 2, 0, none, 0, []⟩, ⟨exC, 4, 1, 0, some ⟨g, 0, none⟩, 1, [exA]⟩]

set_option maxRecDepth 100000 in
set_option maxHeartbeats 1000000 in
theorem lawExample (w : World) : Calls Try.prog 61 #[] w fun e w' => ∃ v, e = .returned v ∧ TasksAt w' w'.heap.size v (exTasks w.heap.size) ∧ Below w.heap.size w w' := by
  go_enter Try.func61, Try.ntmps61
  go_wp2
  go_ret
  have hA := World.cell?_alloc_new w #[.string ⟨#[97]⟩] 9 0
  generalize hw1 : w.alloc (.cells #[.string ⟨#[97]⟩] 9) = w1 at *
  have hsz : w1.heap.size = w.heap.size + 1 := by rw [← hw1]; simp
  have hb1 : Below w.heap.size w w1 := by rw [← hw1]; exact (Below.refl _ _).alloc (Nat.le_refl _) _
  refine ⟨_, rfl, ⟨⟨some ⟨w.heap.size + 1, 0, none⟩, 3, rfl, Nat.le_refl _, by unfold maxLen; omega, fun _ => ⟨w.heap.size + 1, 0, rfl, by simp; omega, fun j u hu => ?_⟩⟩, fun t ht => ?_, fun t ht => ?_⟩, hb1.alloc (by omega) _⟩
  · rw [Nat.zero_add, ← hsz, World.cell?_alloc_new]
    rw [List.getElem?_toArray]
    exact hu
  · simp only [exTasks, List.mem_cons, List.not_mem_nil, or_false] at ht
    rcases ht with rfl | rfl | rfl
    · exact ⟨none, 0, rfl, Nat.le_refl _, Nat.zero_le _, fun h => absurd h (by simp)⟩
    · exact ⟨none, 0, rfl, Nat.le_refl _, Nat.zero_le _, fun h => absurd h (by simp)⟩
    · refine ⟨some ⟨w.heap.size, 0, none⟩, 1, rfl, Nat.le_refl _, by unfold maxLen; omega, fun _ => ⟨w.heap.size, 0, rfl, by simp; omega, fun j u hu => ?_⟩⟩
      rw [Nat.zero_add, World.cell?_alloc_lt _ _ _ (by simp only; omega)]
      cases j with
      | zero => rw [hA]; exact hu
      | succ j => simp at hu
  · simp only [exTasks, List.mem_cons, List.not_mem_nil, or_false] at ht
    have hn : ∀ s : ByteArray, s = exA ∨ s = exB ∨ s = exC → s.size ≤ maxLen := by
      rintro s (rfl | rfl | rfl) <;> decide
    rcases ht with rfl | rfl | rfl
    · exact ⟨hn _ (by simp), by simp, by simp only; omega, by simp only; omega, by simp only; omega⟩
    · exact ⟨hn _ (by simp), by simp, by simp only; omega, by simp only; omega, by simp only; omega⟩
    · exact ⟨hn _ (by simp), fun s hs => hn s (by simp only [List.mem_singleton] at hs; exact .inl hs), by simp only; omega, by simp only; omega, by simp only; omega⟩

end Go.Proofs.Ytcjejcbikgcnbaa
