/- Parts of the proof, laid into one text: CloneT. -/
import Derived.Shelf.SlicesQ.Reverse
import Derived.Test.YtfcfphamecbcgaaGreatG1
import Derived.Test.YtfcfphamecbcgaaGreatG7

/- slices.Clone and slices.Reverse at tasks; append of a task. -/
namespace Go.Proofs.YtfcfphamecbcgaaGreat
open Go.RowKit Go.Shelf

theorem info_task : (Tryz.prog.info? 40).map (fun i => (i.zero, i.size, i.bytes)) = some (some (.agg #[.string ⟨#[]⟩, .int .i64 0, .int .i64 0, .int .i64 0, .slice none 0 0]), 5, 64) := by kernel_rfl
theorem flat_len (l : List Task) : (l.flatMap Task.cells).length = l.length * 5 := by
  induction l with
  | nil => rfl
  | cons t l ih => rw [List.flatMap_cons, List.length_append, ih]; simp [Task.cells]; omega
theorem flat_one (l : List Task) : ∀ u ∈ l.flatMap Task.cells, u.oneCell' = true := fun u hu => by
  obtain ⟨t, _, ht⟩ := List.mem_flatMap.1 hu
  simp only [Task.cells, List.mem_cons, List.not_mem_nil, or_false] at ht
  rcases ht with rfl | rfl | rfl | rfl | rfl <;> rfl
theorem TasksAt.of_own {w : World} {base B n : Nat} {v : Value} {l : List Task} (h : w.ownsRow base 40 5 v n (l.flatMap Task.cells)) (hs : ∀ t ∈ l, StrsAt w B t.bv t.bef) (hB : B ≤ w.heap.size) (ho : ∀ t ∈ l, t.ok) : TasksAt w w.heap.size v l := by
  have hn : n = l.length := by have := h.1; rw [flat_len] at this; omega
  subst hn
  exact ⟨Flat.of_own h, fun t ht => (hs t ht).mono hB, ho⟩

/-! ### slices.Reverse -/
theorem flatK_get (l : List Task) (j : Nat) (hj : j < l.length * 5) : (l.flatMap Task.cells)[j]? = some ((Go.Sort.flatK Task.cells 5 l.toArray)[j]!) := by
  have h5 : j / 5 < l.length := by omega
  have h := flat_get l (j / 5) (j % 5) h5 (by omega)
  rw [show j / 5 * 5 + j % 5 = j by omega] at h
  rw [h, Go.Sort.get_flatK Task.cells 5 l.toArray j (by simpa using hj)]
  have e : l.toArray[j / 5]! = l[j / 5] := by rw [getElem!_pos _ _ (by simpa using h5)]; simp
  rw [e]
  have hl : j % 5 < l[j / 5].cells.length := by show j % 5 < 5; omega
  rw [List.getElem?_eq_getElem hl, getElem!_pos l[j / 5].cells (j % 5) hl]
theorem grown_putRow {α : Type} [Inhabited α] (enc : α → Value) (w : World) (n blk off : Nat) (d : Array α) : w.grownBy (Go.Sort.putRow enc (Go.Sort.ahead w n) blk off d) (some blk) :=
  ⟨rfl, rfl, rfl, by simp, fun i _ hne => by
    simp only [Go.Sort.putRow, Go.Sort.mapBlock, Go.Sort.heap_ahead, Array.getElem?_modify]
    rw [if_neg (fun e => hne (by rw [e]))]⟩

end Go.Proofs.YtfcfphamecbcgaaGreat
