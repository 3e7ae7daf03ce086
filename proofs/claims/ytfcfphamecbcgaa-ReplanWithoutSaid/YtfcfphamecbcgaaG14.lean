/- Parts of the proof, laid into one text: CloneT. -/
import Derived.Shelf.SlicesQ.Reverse
import Derived.Test.YtfcfphamecbcgaaG1
import Derived.Test.YtfcfphamecbcgaaG7

/- slices.Clone and slices.Reverse at tasks; append of a task. -/
namespace Go.Proofs.Ytfcfphamecbcgaa
open Go.RowKit Go.Shelf

theorem info_task : (Try.prog.info? 38).map (fun i => (i.zero, i.size, i.bytes)) = some (some (.agg #[.string ⟨#[]⟩, .int .i64 0, .int .i64 0, .int .i64 0, .slice none 0 0]), 5, 64) := by kernel_rfl
theorem flat_len (l : List Task) : (l.flatMap Task.cells).length = l.length * 5 := by
  induction l with
  | nil => rfl
  | cons t l ih => rw [List.flatMap_cons, List.length_append, ih]; simp [Task.cells]; omega
theorem flat_one (l : List Task) : ∀ u ∈ l.flatMap Task.cells, u.oneCell' = true := fun u hu => by
  obtain ⟨t, _, ht⟩ := List.mem_flatMap.1 hu
  simp only [Task.cells, List.mem_cons, List.not_mem_nil, or_false] at ht
  rcases ht with rfl | rfl | rfl | rfl | rfl <;> rfl
theorem TasksAt.of_own {w : World} {base B n : Nat} {v : Value} {l : List Task} (h : w.ownsRow base 38 5 v n (l.flatMap Task.cells)) (hs : ∀ t ∈ l, StrsAt w B t.bv t.bef) (hB : B ≤ w.heap.size) (ho : ∀ t ∈ l, t.ok) : TasksAt w w.heap.size v l := by
  have hn : n = l.length := by have := h.1; rw [flat_len] at this; omega
  subst hn
  exact ⟨Flat.of_own h, fun t ht => (hs t ht).mono hB, ho⟩

set_option maxHeartbeats 1000000 in
theorem cloneTasks (v : Value) (l : List Task) (w : World) (hl : TasksAt w w.heap.size v l) (hlen : l.length ≤ 1000000) :
    Calls Try.prog 32 #[v] w fun e w' => ∃ v', e = .returned v' ∧ w'.ownsRow w.heap.size 38 5 v' l.length (l.flatMap Task.cells) ∧ Below w.heap.size w w' := by
  have HL := Lib.hid hl
  obtain ⟨A, c, rfl, hc1, hc2, hcell⟩ := hl.open_
  clear hl
  cases A with
  | none =>
    have hl0 : l = [] := by
      cases l with
      | nil => rfl
      | cons x r => obtain ⟨b, off, e, _⟩ := hcell 0 (by simp); cases e
    subst hl0
    have heq := fun W => Lib.run_eql_slice_nil (P := Try.prog) W 22 38 none 0 c 0 0 Try.underlying22
    clear hcell
    go_enter Try.func32, Try.ntmps32
    go_wp2
    go_ret
    exact ⟨_, rfl, World.ownsRow_nil _ _ _ _, Below.refl _ _⟩
  | some ad =>
    have heq := fun W => Lib.run_eql_slice_nil (P := Try.prog) W 22 38 (some ad) l.length c 0 0 Try.underlying22
    clear hcell
    go_enter Try.func32, Try.ntmps32
    go_wp2_with (at_builtin; refine wpList_appendAll _ rfl (.tmp 5) (.tmp 6) 22 rfl w.heap.size 38 info_task Try.underlying22 rfl (by decide) (.slice (some ⟨w.heap.size, 0, none⟩) 0 0) 0 [] rfl (World.ownsRow_made w #[] 0 (Nat.le_refl _) (Nat.zero_le _) rfl) w.heap.size l.length (.slice (some ad) l.length c) (l.flatMap Task.cells) rfl (HL.out.below ((Below.refl _ _).alloc (Nat.le_refl _) _) (Nat.le_refl _)).1 (flat_len l) (flat_one l) (by unfold maxLen; omega) (by omega) (by simp) ?_; intro v1 w1 hown1 hg1 hat1)
    go_ret
    refine ⟨_, rfl, by simpa using hown1, ?_⟩
    exact ((Below.refl w.heap.size w).alloc (Nat.le_refl _) _).grown hg1 (by simp) (fun k hk => by simp [Value.ownBlock] at hk; omega)

/-! ### slices.Reverse -/
theorem flatK_get (l : List Task) (j : Nat) (hj : j < l.length * 5) : (l.flatMap Task.cells)[j]? = some ((Go.Sort.flatK Task.cells 5 l.toArray)[j]!) := by
  have h5 : j / 5 < l.length := by omega
  have h := flat_get l (j / 5) (j % 5) h5 (by omega)
  rw [show j / 5 * 5 + j % 5 = j by omega] at h
  rw [h, Go.Sort.get_flatK Task.cells 5 l.toArray j (by simpa using hj)]
  have e : l.toArray[j / 5]! = l[j / 5] := by rw [getElem!_pos _ _ (by simpa using h5)]; simp
  rw [e]
  have hl : j % 5 < l[j / 5].cells.length := by show j % 5 < 5; omega
  rw [List.getElem?_eq_getElem hl, getElem!_pos l[j / 5].cells (j % 5) hl]
theorem grown_putRow {α : Type} [Inhabited α] (enc : α → Value) (w : World) (n blk off : Nat) (d : Array α) : w.grownBy (Go.Sort.putRow enc (Go.Sort.ahead w n) blk off d) (some blk) :=
  ⟨rfl, rfl, rfl, by simp, fun i _ hne => by
    simp only [Go.Sort.putRow, Go.Sort.mapBlock, Go.Sort.heap_ahead, Array.getElem?_modify]
    rw [if_neg (fun e => hne (by rw [e]))]⟩

end Go.Proofs.Ytfcfphamecbcgaa
