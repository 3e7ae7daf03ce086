/- For every input the law returns true, and its arguments read as they did: MoreP, CloneT, Delete, LawSMore, RowSMore. -/
import Derived.Deep.DeepCutAuto
import Derived.Deep.MidRow
import Derived.Deep.RegionHeld3
import Derived.Deep.RegionLaw
import Derived.Lib.SliceRun
import Derived.Shelf.SlicesQ.Reverse
import Derived.Test.YtcjejcbikgcnbaaG1
import Derived.Test.YtcjejcbikgcnbaaG13
import Derived.Test.YtcjejcbikgcnbaaG7

/- Greater limits, and fewer tasks, never take longer. No program in sight. -/
namespace Go.Proofs.Ytcjejcbikgcnbaa
open Go.RowKit Go.Shelf

section
variable {l : List Task} {c p c' p' : Int}
theorem any_more (hc : c ≤ c') (hp : p ≤ p') (h : l.any (tooMuch c p) = false) : l.any (tooMuch c' p') = false := by
  rw [List.any_eq_false] at h ⊢
  intro t ht
  have := h t ht
  unfold tooMuch at this ⊢
  simp at this ⊢
  omega
theorem check_more (hc : c ≤ c') (hp : p ≤ p') {s : List Int} (hlen : s.length = l.length) (h : checkB l c p s = true) : checkB l c' p' s = true := by
  rw [keeps_check hlen] at h ⊢
  unfold keepsB at h ⊢
  rw [Bool.and_eq_true, List.all_eq_true, List.all_eq_true] at h ⊢
  refine ⟨h.1, fun i hi => ?_⟩
  have := h.2 i hi
  unfold fitsB at this ⊢
  rw [Bool.and_eq_true, decide_eq_true_iff, decide_eq_true_iff] at this ⊢
  omega
theorem least_more (hR : RightT l) (hc0 : 0 ≤ c ∧ 0 ≤ p) (hc : c ≤ c') (hp : p ≤ p') (hfit : l.any (tooMuch c p) = false) : (leastN l c' p').1 ≤ (leastN l c p).1 := by
  obtain ⟨h1, h2, h3, h4⟩ := least_keeps hR hc0 hfit
  have h5 := least_opt (c := c') (p := p') hR (by omega) (any_more hc hp hfit) h2 (fun i hi => by rw [atI_get (by omega)]; exact (h3 _ (List.getElem_mem _)).1) (check_more hc hp h2 h1)
  omega
theorem least_ge0 (hR : RightT l) (hc0 : 0 ≤ c ∧ 0 ≤ p) (hfit : l.any (tooMuch c p) = false) : 0 ≤ (leastN l c p).1 := by
  rw [(least_keeps hR hc0 hfit).2.2.2]
  exact lenTo_ge0 _
theorem least_nil (hR : RightT l) (hc0 : 0 ≤ c ∧ 0 ≤ p) (hfit : l.any (tooMuch c p) = false) (h0 : l.length = 0) : (leastN l c p).1 = 0 := by
  rw [(least_keeps hR hc0 hfit).2.2.2, h0]
  rfl
theorem critL_pos (hR : RightT l) (h0 : 0 < l.length) : (critL l l.length).length ≠ 0 := by
  have hu := (upTo_bd hR l.length (Nat.le_refl _)).2.2 0 h0
  have hb := up_bd hR h0
  have hl := (fieldB_len (hR.field 0 h0)).1
  rw [lenAt_eq h0] at hb
  obtain ⟨j, hj, hg⟩ := goes_exists (sum := 0) (a := ⟨#[]⟩) hR (.inl ⟨rfl, rfl⟩) (by omega)
  unfold goesOn at hg
  rw [Bool.and_eq_true, Bool.and_eq_true, decide_eq_true_iff] at hg
  have hm := (mem_crit hR hj).2 hg.1.1
  intro e
  rw [List.length_eq_zero_iff.1 e] at hm
  cases hm
/-- All indices but one. -/
def butOne (n i : Nat) : List Nat := (List.range n).eraseIdx i
theorem mem_butOne {n i j : Nat} : j ∈ butOne n i ↔ j < n ∧ j ≠ i := by
  unfold butOne
  rw [List.mem_eraseIdx_iff_getElem]
  constructor
  · rintro ⟨k, hk, hne, rfl⟩
    simp at hk ⊢
    exact ⟨hk, hne⟩
  · rintro ⟨h1, h2⟩
    exact ⟨j, by simpa using h1, h2, by simp⟩
theorem map_tk (l : List Task) : (List.range l.length).map (tk l) = l := by
  apply List.ext_getElem
  · simp
  · intro i h1 h2
    simp [tk_get h2]
theorem pick_butOne (l : List Task) (i : Nat) : pickT l (butOne l.length i) = l.eraseIdx i := by
  unfold pickT butOne
  rw [List.eraseIdx_eq_take_drop_succ, List.map_append, List.map_take, List.map_drop, map_tk, ← List.eraseIdx_eq_take_drop_succ]
theorem sub_butOne (hR : RightT l) {i : Nat} (hi : i < l.length) (h : (l.any fun t => decide (l[i].name ∈ t.bef)) = false) : SubT l (butOne l.length i) (l.eraseIdx i) := by
  rw [← pick_butOne]
  refine sub_pick hR (List.nodup_range.sublist (List.eraseIdx_sublist _ _)) (fun j hj => (mem_butOne.1 hj).1) fun j hj k hk => ?_
  have hjl := (mem_butOne.1 hj).1
  obtain ⟨h1, h2, h3⟩ := row_edge hR hjl hk
  refine mem_butOne.2 ⟨h1, fun e => ?_⟩
  rw [List.any_eq_false] at h
  have := h _ (List.getElem_mem hjl)
  subst e
  exact this (by simpa using h3)
end

end Go.Proofs.Ytcjejcbikgcnbaa

/- slices.Clone and slices.Reverse at tasks; append of a task. -/
namespace Go.Proofs.Ytcjejcbikgcnbaa
open Go.RowKit Go.Shelf

theorem info_task : (Try.prog.info? 41).map (fun i => (i.zero, i.size, i.bytes)) = some (some (.agg #[.string ⟨#[]⟩, .int .i64 0, .int .i64 0, .int .i64 0, .slice none 0 0]), 5, 64) := by kernel_rfl
theorem flat_len (l : List Task) : (l.flatMap Task.cells).length = l.length * 5 := by
  induction l with
  | nil => rfl
  | cons t l ih => rw [List.flatMap_cons, List.length_append, ih]; simp [Task.cells]; omega
theorem flat_one (l : List Task) : ∀ u ∈ l.flatMap Task.cells, u.oneCell' = true := fun u hu => by
  obtain ⟨t, _, ht⟩ := List.mem_flatMap.1 hu
  simp only [Task.cells, List.mem_cons, List.not_mem_nil, or_false] at ht
  rcases ht with rfl | rfl | rfl | rfl | rfl <;> rfl
theorem TasksAt.of_own {w : World} {base B n : Nat} {v : Value} {l : List Task} (h : w.ownsRow base 41 5 v n (l.flatMap Task.cells)) (hs : ∀ t ∈ l, StrsAt w B t.bv t.bef) (hB : B ≤ w.heap.size) (ho : ∀ t ∈ l, t.ok) : TasksAt w w.heap.size v l := by
  have hn : n = l.length := by have := h.1; rw [flat_len] at this; omega
  subst hn
  exact ⟨Flat.of_own h, fun t ht => (hs t ht).mono hB, ho⟩

set_option maxHeartbeats 1000000 in
theorem cloneTasks (v : Value) (l : List Task) (w : World) (hl : TasksAt w w.heap.size v l) (hlen : l.length ≤ 1000000) :
    Calls Try.prog 31 #[v] w fun e w' => ∃ v', e = .returned v' ∧ w'.ownsRow w.heap.size 41 5 v' l.length (l.flatMap Task.cells) ∧ Below w.heap.size w w' := by
  have HL := Lib.hid hl
  obtain ⟨A, c, rfl, hc1, hc2, hcell⟩ := hl.open_
  clear hl
  cases A with
  | none =>
    have hl0 : l = [] := by
      cases l with
      | nil => rfl
      | cons x r => obtain ⟨b, off, e, _⟩ := hcell 0 (by simp); cases e
    subst hl0
    have heq := fun W => Lib.run_eql_slice_nil (P := Try.prog) W 22 41 none 0 c 0 0 Try.underlying22
    clear hcell
    go_enter Try.func31, Try.ntmps31
    go_wp2
    go_ret
    exact ⟨_, rfl, World.ownsRow_nil _ _ _ _, Below.refl _ _⟩
  | some ad =>
    have heq := fun W => Lib.run_eql_slice_nil (P := Try.prog) W 22 41 (some ad) l.length c 0 0 Try.underlying22
    clear hcell
    go_enter Try.func31, Try.ntmps31
    go_wp2_with (at_builtin; refine wpList_appendAll _ rfl (.tmp 5) (.tmp 6) 22 rfl w.heap.size 41 info_task Try.underlying22 rfl (by decide) (.slice (some ⟨w.heap.size, 0, none⟩) 0 0) 0 [] rfl (World.ownsRow_made w #[] 0 (Nat.le_refl _) (Nat.zero_le _) rfl) w.heap.size l.length (.slice (some ad) l.length c) (l.flatMap Task.cells) rfl (HL.out.below ((Below.refl _ _).alloc (Nat.le_refl _) _) (Nat.le_refl _)).1 (flat_len l) (flat_one l) (by unfold maxLen; omega) (by omega) (by simp) ?_; intro v1 w1 hown1 hg1 hat1)
    go_ret
    refine ⟨_, rfl, by simpa using hown1, ?_⟩
    exact ((Below.refl w.heap.size w).alloc (Nat.le_refl _) _).grown hg1 (by simp) (fun k hk => by simp [Value.ownBlock] at hk; omega)

/-! ### slices.Reverse -/
def revRen : Ren := ⟨fun | 35 => 32 | n => n, fun | 0 => 0 | 3 => 3 | 4 => 4 | 22 => 22 | 23 => 41 | n => n, fun n => n⟩
theorem revLays : SlLaysE0.n35 Try.prog revRen := {
  mixed := by kernel_rfl
  f35 := ⟨Try.f32.name, by decide, Try.func32.trans (congrArg some (by kernel_rfl))⟩
  t0 := Try.underlying0
  a0 := Try.isAgg0
  z0 := Try.sizeOf0
  v0 := Try.zeroValue0
  t3 := Try.underlying3
  a3 := Try.isAgg3
  z3 := Try.sizeOf3
  v3 := Try.zeroValue3
  t4 := Try.underlying4
  a4 := Try.isAgg4
  z4 := Try.sizeOf4
  v4 := Try.zeroValue4
  t22 := Try.underlying22
  a22 := Try.isAgg22
  z22 := Try.sizeOf22
  v22 := Try.zeroValue22 }

theorem flatK_get (l : List Task) (j : Nat) (hj : j < l.length * 5) : (l.flatMap Task.cells)[j]? = some ((Go.Sort.flatK Task.cells 5 l.toArray)[j]!) := by
  have h5 : j / 5 < l.length := by omega
  have h := flat_get l (j / 5) (j % 5) h5 (by omega)
  rw [show j / 5 * 5 + j % 5 = j by omega] at h
  rw [h, Go.Sort.get_flatK Task.cells 5 l.toArray j (by simpa using hj)]
  have e : l.toArray[j / 5]! = l[j / 5] := by rw [getElem!_pos _ _ (by simpa using h5)]; simp
  rw [e]
  have hl : j % 5 < l[j / 5].cells.length := by show j % 5 < 5; omega
  rw [List.getElem?_eq_getElem hl, getElem!_pos l[j / 5].cells (j % 5) hl]
theorem grown_putRow {α : Type} [Inhabited α] (enc : α → Value) (w : World) (n blk off : Nat) (d : Array α) : w.grownBy (Go.Sort.putRow enc (Go.Sort.ahead w n) blk off d) (some blk) :=
  ⟨rfl, rfl, rfl, by simp, fun i _ hne => by
    simp only [Go.Sort.putRow, Go.Sort.mapBlock, Go.Sort.heap_ahead, Array.getElem?_modify]
    rw [if_neg (fun e => hne (by rw [e]))]⟩

theorem reverseTasks (v : Value) (l : List Task) (base : Nat) (w : World) (h : w.ownsRow base 41 5 v l.length (l.flatMap Task.cells)) :
    Calls Try.prog 32 #[v] w fun e w' => e = .returned (.tuple #[]) ∧ Flat w' w'.heap.size v l.length (l.reverse.flatMap Task.cells) ∧ w.grownBy w' v.ownBlock := by
  rcases h.2 with ⟨rfl, hnil⟩ | ⟨g, cap, cur, rfl, hb, hg, hnc, hcm, hcs, ht⟩
  · have hl : l.length = 0 := by have := flat_len l; rw [hnil] at this; simp at this; omega
    rw [hl]
    refine (AnyQ.slices_Reverse_empty revLays none 0 w).mono ?_
    rintro e w' ⟨rfl, rfl⟩
    exact ⟨rfl, ⟨none, 0, rfl, Nat.le_refl _, Nat.zero_le _, fun h => absurd h (Nat.lt_irrefl _)⟩, World.grownBy.refl _ _⟩
  · have hlen : l.toArray.size = l.length := by simp
    have hH : Go.Sort.HoldsK Task.cells 5 w g 0 l.toArray := fun j hj => by
      rw [Go.Sort.size_flatK, hlen] at hj
      rw [Nat.zero_add]
      refine ⟨?_, h.frozenAt j⟩
      rw [h.cellAt j (by omega), flatK_get l j hj]
      rfl
    have hc := AnyQ.slices_Reverse revLays 5 Try.isAgg41 Try.sizeOf41 Task.cells (fun _ => rfl) (fun t u hu => flat_one [t] u (by simpa using hu)) g 0 cap l.toArray w hH (by unfold maxLen at hcm; omega)
    rw [hlen] at hc
    refine hc.mono ?_
    rintro e w' ⟨rfl, n, rfl⟩
    have hgl := (Array.getElem?_eq_some_iff.1 hg).1
    refine ⟨rfl, ⟨_, cap, rfl, hnc, hcm, fun _ => ⟨g, 0, rfl, by simpa [Go.Sort.putRowK, Go.Sort.putRow, Go.Sort.mapBlock] using hgl, fun j u hu => ?_⟩⟩, grown_putRow _ _ _ _ _ _⟩
    have hj : j < l.reverse.length * 5 := by have := (List.getElem?_eq_some_iff.1 hu).1; rw [flat_len] at this; exact this
    rw [flatK_get l.reverse j hj] at hu
    have hc := Go.Sort.cell?_putRow id (Go.Sort.ahead w n) g 0 (Go.Sort.flatK Task.cells 5 l.toArray) (Go.Sort.flatK Task.cells 5 l.toArray.reverse) hH (by simp) j (by simpa using hj)
    unfold Go.Sort.putRowK
    rw [hc, List.reverse_toArray]
    exact hu

end Go.Proofs.Ytcjejcbikgcnbaa

/- slices.Delete of one task of a row of the call's own. -/
namespace Go.Proofs.Ytcjejcbikgcnbaa
open Go.RowKit Go.Shelf

def zeroT : List Value := [.string ⟨#[]⟩, .int .i64 0, .int .i64 0, .int .i64 0, .slice none 0 0]
theorem clearOne (b o c : Nat) (w : World) (hc : ∀ j, j < 5 → (w.cell? ⟨b, o + j, none⟩).isSome = true) (hf : ∀ j, j < 5 → w.frozen? ⟨b, o + j, none⟩ = false) (ty : TypeId) :
    (Builtin.clear_ #[22] ty #[.slice (some ⟨b, o, none⟩) 1 c]).run Try.prog w = .ok (.tuple #[]) (w.setCells b o zeroT) := by
  have hst := run_storeCells_cells (P := Try.prog) b o zeroT 0 w (by simpa [zeroT] using hc) (by simpa [zeroT] using hf) (by intro v hv; simp [zeroT] at hv; rcases hv with rfl | rfl | rfl <;> rfl)
  simp only [Nat.add_zero] at hst
  have hz : (Builtin.zeroCells (Value.agg #[.string ⟨#[]⟩, .int .i64 0, .int .i64 0, .int .i64 0, .slice none 0 0]).cells 1).toList = zeroT := by kernel_rfl
  simp [Builtin.clear_, run_underlying Try.underlying22, Try.zeroValue41, hz, hst]

theorem size_setCellsT (b : Nat) : ∀ (vs : List Value) (o : Nat) (w : World), (w.setCells b o vs).heap.size = w.heap.size
  | [], _, _ => rfl
  | v :: r, o, w => by rw [World.setCells, size_setCellsT b r]; simp [World.setCell]
theorem heap_setCellsT (b : Nat) : ∀ (vs : List Value) (o : Nat) (w : World) {k : Nat}, k ≠ b → (w.setCells b o vs).heap[k]? = w.heap[k]?
  | [], _, _, _, _ => rfl
  | v :: r, o, w, k, h => by rw [World.setCells, heap_setCellsT b r _ _ h]; exact Below.heap_setCell w _ v k h
theorem setCells_io (b : Nat) : ∀ (vs : List Value) (o : Nat) (w : World), (w.setCells b o vs).os = w.os ∧ (w.setCells b o vs).tape = w.tape ∧ (w.setCells b o vs).output = w.output
  | [], _, _ => ⟨rfl, rfl, rfl⟩
  | v :: r, o, w => by
    obtain ⟨h1, h2, h3⟩ := setCells_io b r (o + 1) (w.setCell ⟨b, o, none⟩ v)
    exact ⟨h1, h2, h3⟩
/-- The cells of the tasks behind the one that goes. -/
def movedT (l : List Task) (i : Nat) : List Value := (l.drop (i + 1)).flatMap Task.cells
theorem movedT_len (l : List Task) (i : Nat) : (movedT l i).length = (l.length - (i + 1)) * 5 := by unfold movedT; rw [flat_len, List.length_drop]
theorem movedT_get (l : List Task) (i t : Nat) (ht : t < (l.length - (i + 1)) * 5) : (movedT l i)[t]? = (l.flatMap Task.cells)[(i + 1) * 5 + t]? := by
  have h := List.take_append_drop (i + 1) l
  have e : l.flatMap Task.cells = (l.take (i + 1)).flatMap Task.cells ++ movedT l i := by
    unfold movedT
    rw [← List.flatMap_append, h]
  have hl : ((l.take (i + 1)).flatMap Task.cells).length = (i + 1) * 5 := by rw [flat_len, List.length_take]; omega
  rw [e, List.getElem?_append_right (by omega), hl]
  congr 1
  omega
theorem erased (l : List Task) (i : Nat) (_hi : i < l.length) : (l.eraseIdx i).flatMap Task.cells = (l.take i).flatMap Task.cells ++ movedT l i := by
  rw [List.eraseIdx_eq_take_drop_succ, List.flatMap_append]
  rfl

set_option maxRecDepth 1000000 in
set_option maxHeartbeats 4000000 in
theorem deleteTasks (base g cap : Nat) (l : List Task) (i : Nat) (w : World) (hi : i < l.length) (h100 : l.length ≤ 100) (h : w.ownsRow base 41 5 (.slice (some ⟨g, 0, none⟩) l.length cap) l.length (l.flatMap Task.cells)) :
    Calls Try.prog 51 #[.slice (some ⟨g, 0, none⟩) l.length cap, .int .i64 i, .int .i64 ((i : Int) + 1)] w fun e w' => e = .returned (.slice (some ⟨g, 0, none⟩) (l.length - 1) cap) ∧
      Flat w' w'.heap.size (.slice (some ⟨g, 0, none⟩) (l.length - 1) cap) (l.length - 1) ((l.eraseIdx i).flatMap Task.cells) ∧ w.grownBy w' (some g) := by
  rcases h.2 with ⟨h1, _⟩ | ⟨g', cap', cur, h1, hb, hg, hnc, hcm, hcs, ht⟩
  · cases h1
  injection h1 with e1 _ e2
  injection e1 with e1
  injection e1 with e1
  subst e1 e2
  obtain ⟨i0, hi0, hz0, hz1, hz2⟩ := info_parts info_task
  have hglt := (Array.getElem?_eq_some_iff.1 hg).1
  have hcell : ∀ q k, k < cap * 5 → ((w.drewN q).cell? ⟨g, k, none⟩).isSome = true ∧ (w.drewN q).frozen? ⟨g, k, none⟩ = false := fun q k hk => by
    constructor
    · show (w.cell? ⟨g, k, none⟩).isSome = true
      rw [cell_of_row w g k cur _ (0, 0) hg, Array.getElem?_eq_getElem (by omega)]
      rfl
    · show w.frozen? ⟨g, k, none⟩ = false
      simp [World.frozen?, hg]
  have hread : ∀ k, k < l.length * 5 → w.cell? ⟨g, k, none⟩ = (l.flatMap Task.cells)[k]? := fun k hk => by
    rw [cell_of_row w g k cur _ (0, 0) hg, ← ht, List.getElem?_take, if_pos hk]
    simp
  obtain ⟨A, hA, hsrc⟩ : ∃ A : Addr, (if cap = i + 1 then some (⟨g, 0, none⟩ : Addr) else some ⟨g, (i + 1) * 5, none⟩) = some A ∧ Hid (∀ t u, (movedT l i)[t]? = some u → w.drew.cell? (A.add t) = some u) := by
    by_cases hc : cap = i + 1
    · refine ⟨⟨g, 0, none⟩, by simp [hc], fun t u hu => ?_⟩
      have h0 : (movedT l i).length = 0 := by rw [movedT_len]; omega
      rw [List.length_eq_zero_iff.1 h0] at hu
      simp at hu
    · refine ⟨⟨g, (i + 1) * 5, none⟩, by simp [hc], fun t u hu => ?_⟩
      have ht : t < (l.length - (i + 1)) * 5 := by
        have := (List.getElem?_eq_some_iff.1 hu).1
        rwa [movedT_len] at this
      rw [movedT_get l i t ht] at hu
      rw [Addr.add_lit]
      exact (hread _ (by omega)).trans hu
  have s1 : Hid ((movedT l i).length = (l.length - (i + 1)) * 5) := movedT_len l i
  have s2 : Hid (∀ u ∈ movedT l i, u.oneCell' = true) := flat_one _
  have s3 : Hid (∀ t, t < (movedT l i).length → (w.drew.cell? ⟨g, 0 + i * 5 + t, none⟩).isSome = true ∧ w.drew.frozen? ⟨g, 0 + i * 5 + t, none⟩ = false) := fun t ht => by
    rw [movedT_len] at ht
    rw [Nat.zero_add]
    exact hcell 1 _ (by omega)
  obtain ⟨W1, hW1⟩ : ∃ W1, W1 = w.drew.setCells g (0 + i * 5) (movedT l i) := ⟨_, rfl⟩
  have hW1b : ∀ k, k < cap * 5 → (W1.cell? ⟨g, k, none⟩).isSome = true ∧ W1.frozen? ⟨g, k, none⟩ = false := fun k hk => by
    rw [hW1, World.frozen?_setCells]
    exact ⟨World.isSome_setCells g _ _ _ _ (hcell 1 k hk).1, (hcell 1 k hk).2⟩
  have hcl : ∀ ty, (Builtin.clear_ #[22] ty #[.slice (some ⟨g, (l.length - 1) * 5, none⟩) 1 (cap - (l.length - 1))]).run Try.prog W1 = .ok (.tuple #[]) (W1.setCells g ((l.length - 1) * 5) zeroT) := fun ty =>
    clearOne g _ _ W1 (fun j hj => (hW1b _ (by omega)).1) (fun j hj => (hW1b _ (by omega)).2) ty
  have HW1 : Hid (W1 = w.drew.setCells g (0 + i * 5) (movedT l i)) := hW1
  have HF : Hid (Flat (W1.setCells g ((l.length - 1) * 5) zeroT) (W1.setCells g ((l.length - 1) * 5) zeroT).heap.size (.slice (some ⟨g, 0, none⟩) (l.length - 1) cap) (l.length - 1) ((l.eraseIdx i).flatMap Task.cells) ∧ w.grownBy (W1.setCells g ((l.length - 1) * 5) zeroT) (some g)) := by
    have hlE : ((l.eraseIdx i).flatMap Task.cells).length = (l.length - 1) * 5 := by rw [flat_len, List.length_eraseIdx, if_pos hi]
    refine ⟨⟨_, _, rfl, by omega, hcm, fun _ => ⟨g, 0, rfl, ?_, fun j u hu => ?_⟩⟩, ?_⟩
    · rw [size_setCellsT, hW1, size_setCellsT]
      exact hglt
    · have hj : j < (l.length - 1) * 5 := by
        have := (List.getElem?_eq_some_iff.1 hu).1
        omega
      rw [Nat.zero_add, World.cell?_setCells_out _ _ _ _ _ (fun _ _ => .inl hj), hW1, Nat.zero_add]
      rw [erased l i hi] at hu
      by_cases hji : j < i * 5
      · rw [World.cell?_setCells_out _ _ _ _ _ (fun _ _ => .inl hji)]
        rw [List.getElem?_append_left (by rw [flat_len, List.length_take]; omega)] at hu
        show w.cell? _ = _
        rw [hread j (by omega), ← hu]
        conv => lhs; rw [← List.take_append_drop i l, List.flatMap_append]
        rw [List.getElem?_append_left (by rw [flat_len, List.length_take]; omega)]
      · obtain ⟨t, rfl⟩ : ∃ t, j = i * 5 + t := ⟨j - i * 5, by omega⟩
        rw [List.getElem?_append_right (by rw [flat_len, List.length_take]; omega), flat_len, List.length_take, Nat.min_eq_left (by omega), Nat.add_sub_cancel_left] at hu
        have htl : t < (movedT l i).length := (List.getElem?_eq_some_iff.1 hu).1
        have hm := movedT_len l i
        rw [World.cell?_setCells_in g (movedT l i) (i * 5) w.drew (fun j hj => show (w.drew.cell? _).isSome = true from (hcell 1 _ (by omega)).1) t htl, ← hu, List.getElem?_eq_getElem]
    · refine ⟨?_, ?_, ?_, ?_, fun k hk hne => ?_⟩
      · rw [(setCells_io _ _ _ _).1, hW1, (setCells_io _ _ _ _).1]; rfl
      · rw [(setCells_io _ _ _ _).2.1, hW1, (setCells_io _ _ _ _).2.1]; rfl
      · rw [(setCells_io _ _ _ _).2.2, hW1, (setCells_io _ _ _ _).2.2]; rfl
      · rw [size_setCellsT, hW1, size_setCellsT]; exact Nat.le_refl _
      · have hkg : k ≠ g := fun e => hne (by rw [e])
        rw [heap_setCellsT _ _ _ _ hkg, hW1, heap_setCellsT _ _ _ _ hkg]
        rfl
  have hic : i ≤ cap := by omega
  have hjc : i + 1 ≤ cap := by omega
  unfold maxLen at hcm
  clear h hW1 hW1b hread hcell ht hg hcs
  generalize hn : l.length = n at *
  obtain ⟨n1, rfl⟩ : ∃ n1, n = n1 + 1 := ⟨n - 1, by omega⟩
  simp only [Nat.add_sub_cancel] at hcl HF ⊢
  have hwr : IntKind.i64.wrap ((i : Int) + 1) = (i : Int) + 1 := IntWalk.i64_in _ (by omega)
  have hp0 : (0 : Int) ≤ (i : Int) + 1 := by omega
  have hp1 : (i : Int) + 1 ≤ ((n1 + 1 : Nat) : Int) := by omega
  have hp1' : (i : Int) + 1 ≤ (n1 : Int) + 1 := by omega
  have hp2 : ((i : Int) + 1).toNat = i + 1 := by omega
  have Hn := Lib.hid hn
  have hsum : i + (n1 + 1 - (i + 1)) = n1 := by omega
  have hn1c : ¬ cap = n1 := by omega
  have hn1c' : n1 ≤ cap := by omega
  clear hn
  go_enter Try.func51, Try.ntmps51
  go_wp2_with fail
  go_region_law (refine step_append_room rfl (.tmp 22) (.tmp 25) 22 rfl 41 i0 5 Try.underlying22 hi0 hz1 g 0 i cap (by simp [Act.eval, Act.put]) A (n1 + 1 - (i + 1)) (cap - (i + 1)) (movedT l i) (by simp [Act.eval, Act.put]) s1.out hsrc.out s2.out (by omega) s3.out ?_; rw [← HW1.out])
  rw [show i + (n1 - i) = n1 by omega]
  go_simp
  have hq0 : (0 : Int) ≤ (n1 : Int) + 1 := by omega
  have hq1 : ((n1 : Int) + 1).toNat = n1 + 1 := by omega
  have hq2 : (n1 : Int) ≤ (n1 : Int) + 1 := by omega
  have hq3 : (n1 : Int) + 1 ≤ (cap : Int) := by omega
  clear hwr hp0 hp1 hp1' hp2
  go_wp2_with fail
  go_ret
  exact ⟨rfl, HF.out.1, HF.out.2⟩

end Go.Proofs.Ytcjejcbikgcnbaa

/- The law ScheduleMore: the walk. -/
namespace Go.Proofs.Ytcjejcbikgcnbaa
open Go.RowKit Go.Shelf

theorem entersSMore : ∀ args w, (callFunc 50 args).run Try.prog w = .ok (.enter 50 args) w := enters_of Try.func50 (by kernel_rfl) rfl

set_option maxRecDepth 100000 in
set_option maxHeartbeats 2000000 in
theorem smoreClosure (t : Task) (l : List Task) (i : Nat) (hi : i < l.length) (A : Option Addr) (cc : Nat) (D E : Nat) (w : World) (hb : StrsAt w w.heap.size t.bv t.bef) (hl : TasksAt w w.heap.size (.slice A l.length cc) l) (hD : w.cell? ⟨D, 0, none⟩ = some (.slice A l.length cc)) (hE : w.cell? ⟨E, 0, none⟩ = some (.int .i64 i)) :
    Calls Try.prog 50 #[t.val, .pointer (some ⟨D, 0, none⟩), .pointer (some ⟨E, 0, none⟩)] w fun e w' => e = .returned (.bool (decide (l[i].name ∈ t.bef))) ∧ Below w.heap.size w w' := by
  obtain ⟨b0, off0, e0, hb0, hct⟩ := hl.cells hi
  obtain ⟨A', cc', e', hA1, hA2, -⟩ := hl.open_
  injection e' with e1 _ e2
  subst e1 e2
  obtain ⟨A0, c0, hA, hc1, hc2, -⟩ := hb.open_
  have HB : Hid (∀ o q, StrsAt ((w.alloc o).drewN q) w.heap.size t.bv t.bef) := fun o q => hb.below (below_drewN ((Below.refl _ _).alloc (Nat.le_refl _) o) q) (Nat.le_refl _)
  have hn := (hct i hi).1
  have y1 : ∀ o, (w.alloc o).cell? ⟨D, 0, none⟩ = some (.slice A l.length cc) := fun o => (((Below.refl _ _).alloc (Nat.le_refl _) o).cell (p := ⟨D, 0, none⟩) (World.block_lt_of_cell? _ _ hD)).trans hD
  have y2 : ∀ o, (w.alloc o).cell? ⟨E, 0, none⟩ = some (.int .i64 i) := fun o => (((Below.refl _ _).alloc (Nat.le_refl _) o).cell (p := ⟨E, 0, none⟩) (World.block_lt_of_cell? _ _ hE)).trans hE
  subst e0
  have y3 : ∀ o, (w.alloc o).cell? ⟨b0, off0 + i * 5, none⟩ = some (.string l[i].name) := fun o => (((Below.refl _ _).alloc (Nat.le_refl _) o).cell (p := ⟨b0, off0 + i * 5, none⟩) (World.block_lt_of_cell? _ _ hn)).trans hn
  have hC := fun o q => quiet_left (containsStr t.bv t.bef l[i].name w.heap.size ((w.alloc o).drewN q) (HB.out o q))
  unfold maxLen at hA2 hc2
  have i1 : (0 : Int) ≤ (i : Int) := Int.natCast_nonneg _
  have i2 : (i : Int) < (l.length : Int) := by omega
  clear hct hn hb hl hA hD hE
  generalize l[i].name = nm at *
  obtain ⟨name, len, crew, pow, ba, bc, bef⟩ := t
  unfold Task.val
  unfold Task.bv at hC
  simp only at *
  generalize decide (nm ∈ bef) = r at *
  go_enter Try.func50, Try.ntmps50
  go_wp2_with fail
  have z1 := y1 (.cells #[.string name, .int .i64 len, .int .i64 crew, .int .i64 pow, .slice ba bef.length bc] 41)
  have z2 := y2 (.cells #[.string name, .int .i64 len, .int .i64 crew, .int .i64 pow, .slice ba bef.length bc] 41)
  have z3 := y3 (.cells #[.string name, .int .i64 len, .int .i64 crew, .int .i64 pow, .slice ba bef.length bc] 41)
  have z4 : (w.alloc (.cells #[.string name, .int .i64 len, .int .i64 crew, .int .i64 pow, .slice ba bef.length bc] 41)).cell? ⟨w.heap.size, 4, none⟩ = some (.slice ba bef.length bc) := by rw [World.cell?_alloc_new]; rfl
  have hC := hC (.cells #[.string name, .int .i64 len, .int .i64 crew, .int .i64 pow, .slice ba bef.length bc] 41)
  have hbo : Below w.heap.size w (w.alloc (.cells #[.string name, .int .i64 len, .int .i64 crew, .int .i64 pow, .slice ba bef.length bc] 41)) := (Below.refl _ _).alloc (Nat.le_refl _) _
  clear HB y1 y2 y3
  generalize w.alloc (.cells #[.string name, .int .i64 len, .int .i64 crew, .int .i64 pow, .slice ba bef.length bc] 41) = wx at *
  go_quiet ((go_at_call 48; exact hC _))
  go_wp2
  go_ret
  exact ⟨rfl, below_drewN hbo _⟩

/-- What Least gives with greater limits: nothing longer, or the limits are too great. -/
theorem least_limits {l : List Task} {c p a b : Int} (hv : validB l c p = true) (hn : l.any (tooMuch c p) = false) (ha : 0 ≤ a) (hb : 0 ≤ b) {w w' : World} {e : Ending} (h : LeastPost l (c + a) (p + b) w e w') :
    ∃ M F sl, e = .returned (.tuple #[.int .i64 M, sl, .int .i64 F]) ∧ ((F = 0 ∧ M ≤ (leastN l c p).1) ∨ F = 1) := by
  obtain ⟨hR, hc0, -, hp0, -⟩ := valid_right hv
  rcases h.2 with ⟨-, rfl⟩ | ⟨-, hno, -⟩ | ⟨-, -, A, cap, rfl, -⟩
  · exact ⟨_, _, _, rfl, .inr rfl⟩
  · rw [any_more (by omega) (by omega) hn] at hno; cases hno
  · exact ⟨_, _, _, rfl, .inl ⟨rfl, least_more hR ⟨hc0, hp0⟩ (by omega) (by omega) hn⟩⟩
theorem right_valid {l : List Task} {c p : Int} (hR : RightT l) (hc : 0 ≤ c ∧ c ≤ 1000) (hp : 0 ≤ p ∧ p ≤ 1000) : validB l c p = true := by
  unfold validB betweenB
  rw [(right_iff l).2 hR, decide_eq_true hc, decide_eq_true hp]
  rfl
theorem erase_ok {l : List Task} {i : Nat} {w : World} {B : Nat} {v' : Value} (h : TasksAt w B v' l) {v : Value} (hf : Flat w w.heap.size v (l.length - 1) ((l.eraseIdx i).flatMap Task.cells)) (hi : i < l.length) (hB : B ≤ w.heap.size) : TasksAt w w.heap.size v (l.eraseIdx i) := by
  refine ⟨by rw [List.length_eraseIdx, if_pos hi]; exact hf, fun t ht => (h.2.1 t (List.mem_of_mem_eraseIdx ht)).mono hB, fun t ht => h.2.2 t (List.mem_of_mem_eraseIdx ht)⟩

set_option maxRecDepth 100000 in
set_option maxHeartbeats 8000000 in
theorem lawScheduleMore (v : Value) (l : List Task) (c p a b k : Int) (w : World) (hl : TasksAt w w.heap.size v l) (ha : 0 ≤ a ∧ a ≤ 255) (hb : 0 ≤ b ∧ b ≤ 255) (hk : 0 ≤ k ∧ k ≤ 255) :
    Calls Try.prog 9 #[v, .int .i64 c, .int .i64 p, .int .u8 a, .int .u8 b, .int .u8 k] w fun e w' => e = .returned (.bool true) ∧ Below w.heap.size w w' := by
  have HT : Hid (∀ w1, Below w.heap.size w w1 → TasksAt w1 w1.heap.size v l) := fun w1 hb => (hl.below hb (Nat.le_refl _)).mono hb.size
  have HCr : Hid (∀ w1, Below w.heap.size w w1 → Calls Try.prog 39 #[v] w1 (CritPost l w1)) := fun w1 hb => schedCritical v l w1 (HT.out w1 hb)
  have HLe : Hid (∀ c p w1, Below w.heap.size w w1 → Calls Try.prog 41 #[v, .int .i64 c, .int .i64 p] w1 (LeastPost l c p w1)) := fun c p w1 hb => schedLeast v l c p w1 (HT.out w1 hb)
  have hA : ∀ o, Calls Try.prog 37 #[] (w.alloc o) fun e w' => e = .returned (.bool true) ∧ Below (w.alloc o).heap.size (w.alloc o) w' := fun o => lawAwake43 _
  have hb0 : ∀ o, Below w.heap.size w (w.alloc o) := fun o => (Below.refl _ _).alloc (Nat.le_refl _) o
  have hLong := fun w1 hb => lawShort v (.slice none 0 0) l [] w1 (HT.out w1 hb) (noRows w1) (by simp)
  obtain ⟨A, cc, rfl, hA1, hA2, -⟩ := hl.open_
  unfold maxLen at hA2
  clear hl
  obtain ⟨ha0, ha1⟩ := ha
  obtain ⟨hb1', hb2'⟩ := hb
  obtain ⟨hk0, hk1⟩ := hk
  have HBx := Lib.hid (Blk.new w 22 #[.slice A l.length cc])
  cases hlg : shortB l [] with
  | false =>
    rw [hlg] at hLong
    clear hlg
    go_enter Try.func9, Try.ntmps9
    go_wp2_with fail
    refine (hA _).mono ?_
    rintro e w1 ⟨rfl, hb1⟩
    have hbx := (hb0 (.cells #[.slice A l.length cc] 22)).trans (hb1.mono (hb0 _).size)
    have x1 := (HBx.out.below hb1 HBx.out.lt).cell 0
    simp only [List.getElem?_toArray, List.getElem?_cons_zero] at x1
    go_wp2_with fail
    refine (hLong _ hbx).mono ?_
    rintro e w2 ⟨rfl, hb2⟩
    go_wp2_with fail
    go_ret
    exact ⟨rfl, hbx.trans (hb2.mono hbx.size)⟩
  | true =>
    rw [hlg] at hLong
    clear hlg
    go_enter Try.func9, Try.ntmps9
    go_wp2_with fail
    refine (hA _).mono ?_
    rintro e w1 ⟨rfl, hb1⟩
    have hbx := (hb0 (.cells #[.slice A l.length cc] 22)).trans (hb1.mono (hb0 _).size)
    have HB1 := HBx.out.below hb1 HBx.out.lt
    have x1 := HB1.cell 0
    simp only [List.getElem?_toArray, List.getElem?_cons_zero] at x1
    go_wp2_with fail
    refine (hLong _ hbx).mono ?_
    rintro e w2 ⟨rfl, hb2⟩
    have hbx2 := hbx.trans (hb2.mono hbx.size)
    have HB2 := Lib.hid (HB1.below hb2 HB1.lt)
    have x2 := HB2.out.cell 0
    simp only [List.getElem?_toArray, List.getElem?_cons_zero] at x2
    clear hb1 hb2 hbx x1 HB1 HBx hA hLong
    by_cases h6 : 6 < l.length
    · have h6b : decide ((6 : Int) < l.length) = true := by simp; omega
      go_wp2_with fail
      go_ret
      exact ⟨rfl, hbx2⟩
    have h6b : decide ((6 : Int) < l.length) = false := by simp; omega
    go_wp2_with fail
    refine (HLe.out c p _ hbx2).mono ?_
    rintro e w3 ⟨hb3, hpost⟩
    have hbx3 := hbx2.trans (hb3.mono hbx2.size)
    have HB3 := Lib.hid (HB2.out.below hb3 HB2.out.lt)
    have x3 := HB3.out.cell 0
    simp only [List.getElem?_toArray, List.getElem?_cons_zero] at x3
    rcases hpost with ⟨hv, rfl⟩ | ⟨hv, hn, rfl⟩ | ⟨hv, hn, A3, cap3, rfl, -⟩
    · clear hv
      go_wp2_with fail
      go_ret
      exact ⟨rfl, hbx3⟩
    · clear hv hn
      go_wp2_with fail
      go_ret
      exact ⟨rfl, hbx3⟩
    obtain ⟨hR, hc0, hc1, hp0, hp1⟩ := valid_right hv
    have HR := Lib.hid hR
    have Hv := Lib.hid hv
    have Hn := Lib.hid hn
    have HC0 : Hid (0 ≤ c ∧ 0 ≤ p) := ⟨hc0, hp0⟩
    have HNil : Hid (l.length = 0 → (leastN l c p).1 = 0) := least_nil hR HC0.out hn
    have HErase : Hid (∀ i (hi : i < l.length), (l.any fun t => decide (l[i].name ∈ t.bef)) = false → (leastN (l.eraseIdx i) c p).1 ≤ (leastN l c p).1 ∧ validB (l.eraseIdx i) c p = true ∧ (l.eraseIdx i).any (tooMuch c p) = false) := fun i hi h => by
      have hS := sub_butOne hR hi h
      exact ⟨hS.least hR HC0.out hn, right_valid (hS.right hR) ⟨hc0, hc1⟩ ⟨hp0, hp1⟩, hS.any hn⟩
    have HMore : Hid (∀ e w', LeastPost l (c + a) (p + b) w3 e w' → ∃ M F sl, e = .returned (.tuple #[.int .i64 M, sl, .int .i64 F]) ∧ ((F = 0 ∧ M ≤ (leastN l c p).1) ∨ F = 1)) := fun e w' h => least_limits hv hn ha0 hb1' h
    have HFree : Hid ((leastN l 1000 1000).1 ≤ (leastN l c p).1 ∧ (leastN l 1000 1000).2.length = l.length ∧ validB l 1000 1000 = true ∧ l.any (tooMuch 1000 1000) = false) := ⟨least_more hR HC0.out hc1 hp1 hn, (free_least hR (by omega)).2.1, right_valid hR (by omega) (by omega), free_any hR (by omega)⟩
    have HCl : Hid (0 < l.length → (critL l l.length).length ≠ 0) := critL_pos hR
    have HCl0 : Hid (l.length = 0 → (critL l l.length).length = 0) := fun h => by rw [h]; rfl
    have hlen6 : l.length ≤ 6 := by omega
    clear hv hn hR x2 hb3 HB2 h6
    generalize (leastN l c p).2 = rl at *
    generalize (leastN l c p).1 = rn at *
    go_wp2_with fail
    refine (HLe.out (c + a) (p + b) _ hbx3).mono ?_
    rintro e w4 hpost
    have hb4 := hpost.1
    obtain ⟨M, F, sl, rfl, hMF⟩ := HMore.out _ _ hpost
    have hbx4 := hbx3.trans (hb4.mono hbx3.size)
    have HB4 := Lib.hid (HB3.out.below hb4 HB3.out.lt)
    have x4 := HB4.out.cell 0
    simp only [List.getElem?_toArray, List.getElem?_cons_zero] at x4
    clear hpost hb4 x3 HB3 HMore
    go_upto_region 9 with fail
    go_cut [78] (fun s wx => s = .bool false ∧ wx = w4)
    case first =>
      rcases hMF with ⟨rfl, hle⟩ | rfl
      · have hd : decide (rn < M) = false := decide_eq_false (by omega)
        go_wp2_with fail
        go_meet
        exact ⟨rfl, rfl⟩
      · go_wp2_with fail
        go_meet
        exact ⟨rfl, rfl⟩
    case rest =>
      obtain ⟨rfl, rfl⟩ := hcut
      clear hMF
      go_wp2_with fail
      refine (HLe.out 1000 1000 _ hbx4).mono ?_
      rintro e w5 ⟨hb5, hpost⟩
      obtain ⟨hfr, hfl, hv, hn⟩ := HFree.out
      rcases hpost with ⟨hno, -⟩ | ⟨-, hno, -⟩ | ⟨-, -, A5, cap5, rfl, -⟩
      · rw [hv] at hno; cases hno
      · rw [hn] at hno; cases hno
      have hbx5 := hbx4.trans (hb5.mono hbx4.size)
      have HB5 := Lib.hid (HB4.out.below hb5 HB4.out.lt)
      have x5 := HB5.out.cell 0
      simp only [List.getElem?_toArray, List.getElem?_cons_zero] at x5
      have d1 : decide (rn < (leastN l 1000 1000).1) = false := decide_eq_false (by omega)
      have d2 : (((leastN l 1000 1000).2.length : Int) != (l.length : Int)) = false := by rw [hfl]; simp
      clear hv hn hfr hfl HFree hb5 x4 HB4
      generalize (leastN l 1000 1000).2.length = fl at *
      generalize (leastN l 1000 1000).1 = fr at *
      go_wp2_with fail
      refine (HCr.out _ hbx5).mono ?_
      rintro e w6 ⟨hb6, hpost⟩
      rcases hpost with ⟨hno, -⟩ | ⟨-, A6, cap6, rfl, -⟩
      · rw [(right_iff l).2 HR.out] at hno; cases hno
      have hbx6 := hbx5.trans (hb6.mono hbx5.size)
      have HB6 := Lib.hid (HB5.out.below hb6 HB5.out.lt)
      have x6 := HB6.out.cell 0
      simp only [List.getElem?_toArray, List.getElem?_cons_zero] at x6
      clear hb6 x5 HB5
      generalize (critL l l.length).length = cl at *
      by_cases hl0 : l.length = 0
      · have e1 := HNil.out hl0
        have e2 := HCl0.out hl0
        have d3 : ((l.length : Int) == 0) = true := beq_iff_eq.2 (by omega)
        clear hl0
        subst e1 e2
        go_wp2_with fail
        go_ret
        exact ⟨rfl, hbx6⟩
      have d3 : ((l.length : Int) == 0) = false := beq_eq_false_iff_ne.2 (by omega)
      have d4 : ((cl : Int) == 0) = false := beq_eq_false_iff_ne.2 (by have := HCl.out (by omega); omega)
      obtain ⟨i, hi, hrem⟩ : ∃ i : Nat, i < l.length ∧ k % (l.length : Int) = (i : Int) := ⟨(k % (l.length : Int)).toNat, by have := Int.emod_lt_of_pos k (show (0 : Int) < l.length by omega); omega, by have := Int.emod_nonneg k (show (l.length : Int) ≠ 0 by omega); omega⟩
      have hl1 : (0 : Int) < (l.length : Int) := by omega
      have hl2 : ¬ (l.length : Int) = 0 := by omega
      have hbx7 := hbx6.alloc hbx6.size (.cells #[.int .i64 (i : Int)] 3)
      have HB7 := HB6.out.alloc (.cells #[.int .i64 (i : Int)] 3)
      have x7 := HB7.cell 0
      simp only [List.getElem?_toArray, List.getElem?_cons_zero] at x7
      have HI7 := Blk.new w6 3 #[.int .i64 (i : Int)]
      have y7 := HI7.cell 0
      simp only [List.getElem?_toArray, List.getElem?_cons_zero] at y7
      have hCF := containsFuncTask (.slice A l.length cc) l 50 #[.pointer (some ⟨w.heap.size, 0, none⟩), .pointer (some ⟨w6.heap.size, 0, none⟩)] (fun t => decide (l[i].name ∈ t.bef)) entersSMore (w6.alloc (.cells #[.int .i64 (i : Int)] 3)) (HT.out _ hbx7) (fun t ht w' hb =>
        smoreClosure t l i hi A cc w.heap.size w6.heap.size w' ((((HT.out _ hbx7).2.1 t ht).below hb (Nat.le_refl _)).mono hb.size) (((HT.out _ hbx7).below hb (Nat.le_refl _)).mono hb.size) ((hb.cell (p := ⟨w.heap.size, 0, none⟩) HB7.lt).trans x7) ((hb.cell (p := ⟨w6.heap.size, 0, none⟩) HI7.lt).trans y7))
      have HEr := Lib.hid (HErase.out i hi)
      have HB7 := Lib.hid HB7
      have HI7 := Lib.hid HI7
      clear hl0 HNil HCl HCl0 HErase
      generalize (l.any fun t => decide (l[i].name ∈ t.bef)) = an at *
      go_wp2_with fail
      refine hCF.mono ?_
      rintro e w8 ⟨rfl, hb8⟩
      have hbx8 := hbx7.trans (hb8.mono hbx7.size)
      have HB8 := Lib.hid (HB7.out.below hb8 HB7.out.lt)
      have HI8 := Lib.hid (HI7.out.below hb8 HI7.out.lt)
      clear hCF x7 y7 hb8 HB7 HI7 hrem
      generalize w6.heap.size = D6 at *
      cases an with
      | true =>
        go_wp2_with fail
        go_ret
        exact ⟨rfl, hbx8⟩
      | false =>
        obtain ⟨hle, hv, hn⟩ := HEr.out rfl
        have Hv2 := Lib.hid hv
        have Hn2 := Lib.hid hn
        have x8 := HB8.out.cell 0
        have y8 := HI8.out.cell 0
        simp only [List.getElem?_toArray, List.getElem?_cons_zero] at x8 y8
        have HClo : Hid (∀ w', Below w8.heap.size w8 w' → Calls Try.prog 31 #[.slice A l.length cc] w' fun e w'' => ∃ g cap, e = .returned (.slice (some ⟨g, 0, none⟩) l.length cap) ∧ w8.heap.size ≤ g ∧ w''.ownsRow w8.heap.size 41 5 (.slice (some ⟨g, 0, none⟩) l.length cap) l.length (l.flatMap Task.cells) ∧ Below w8.heap.size w8 w'' ∧ w''.cell? ⟨w.heap.size, 0, none⟩ = some (.slice A l.length cc) ∧ w''.cell? ⟨D6, 0, none⟩ = some (.int .i64 i)) := fun w' hb =>
          (cloneTasks (.slice A l.length cc) l w' (HT.out _ (hbx8.trans (hb.mono hbx8.size))) (by omega)).mono fun e w'' ⟨v', he, hown, hb2⟩ => by
            have hbb := hb.trans (hb2.mono hb.size)
            obtain ⟨g, cap, rfl, hg, -⟩ := World.ownsRow.form hown (by omega)
            exact ⟨g, cap, he, Nat.le_trans hb.size hg, own_mono hown hb.size, hbb, (hbb.cell (p := ⟨w.heap.size, 0, none⟩) HB8.out.lt).trans x8, (hbb.cell (p := ⟨D6, 0, none⟩) HI8.out.lt).trans y8⟩
        have HDel : Hid (∀ w' g cap, Below w8.heap.size w8 w' → w8.heap.size ≤ g → w'.ownsRow w8.heap.size 41 5 (.slice (some ⟨g, 0, none⟩) l.length cap) l.length (l.flatMap Task.cells) →
            Calls Try.prog 51 #[.slice (some ⟨g, 0, none⟩) l.length cap, .int .i64 i, .int .i64 ((i : Int) + 1)] w' fun e w'' => e = .returned (.slice (some ⟨g, 0, none⟩) (l.length - 1) cap) ∧ TasksAt w'' w''.heap.size (.slice (some ⟨g, 0, none⟩) (l.length - 1) cap) (l.eraseIdx i) ∧ Below w8.heap.size w8 w'' ∧ w''.cell? ⟨w.heap.size, 0, none⟩ = some (.slice A l.length cc) ∧ w''.cell? ⟨D6, 0, none⟩ = some (.int .i64 i)) := fun w' g cap hb hg hown =>
          (deleteTasks w8.heap.size g cap l i w' hi (by omega) hown).mono fun e w'' ⟨he, hf, hgr⟩ => by
            have hbb := hb.grown hgr hb.size (fun k hk => by cases hk; exact hg)
            exact ⟨he, erase_ok (HT.out w'' (hbx8.trans (hbb.mono hbx8.size))) hf hi (Nat.le_refl _), hbb, (hbb.cell (p := ⟨w.heap.size, 0, none⟩) HB8.out.lt).trans x8, (hbb.cell (p := ⟨D6, 0, none⟩) HI8.out.lt).trans y8⟩
        have HLea : Hid (∀ w' u, Below w8.heap.size w8 w' → TasksAt w' w'.heap.size u (l.eraseIdx i) →
            Calls Try.prog 41 #[u, .int .i64 c, .int .i64 p] w' fun e w'' => ∃ M2 sl2, e = .returned (.tuple #[.int .i64 M2, sl2, .int .i64 0]) ∧ decide (M2 ≤ rn) = true ∧ Below w8.heap.size w8 w'' ∧ w''.cell? ⟨w.heap.size, 0, none⟩ = some (.slice A l.length cc) ∧ w''.cell? ⟨D6, 0, none⟩ = some (.int .i64 i)) := fun w' u hb hu =>
          (schedLeast u (l.eraseIdx i) c p w' hu).mono fun e w'' ⟨hb2, hpost⟩ => by
            have hbb := hb.trans (hb2.mono hb.size)
            rcases hpost with ⟨hno, -⟩ | ⟨-, hno, -⟩ | ⟨-, -, A9, cap9, he, -⟩
            · rw [Hv2.out] at hno; cases hno
            · rw [Hn2.out] at hno; cases hno
            exact ⟨_, _, he, decide_eq_true hle, hbb, (hbb.cell (p := ⟨w.heap.size, 0, none⟩) HB8.out.lt).trans x8, (hbb.cell (p := ⟨D6, 0, none⟩) HI8.out.lt).trans y8⟩
        have HL0 := Below.refl w8.heap.size w8
        have i1 : (0 : Int) ≤ (i : Int) := Int.natCast_nonneg _
        have i2 : (i : Int) < (l.length : Int) := by omega
        have i3 : IntKind.i64.wrap ((i : Int) + 1) = (i : Int) + 1 := IntWalk.i64_in _ (by omega)
        clear hv hn hle HEr HB8 HI8
        go_wp2_with fail
        go_region_held3 (fun w' => w'.cell? ⟨w.heap.size, 0, none⟩ = some (.slice A l.length cc) ∧ w'.cell? ⟨D6, 0, none⟩ = some (.int .i64 i) ∧ Below w8.heap.size w8 w')
          (first
            | (exact ⟨by assumption, by assumption, by assumption⟩)
            | (go_split_ands; exact ⟨by assumption, by assumption, by assumption⟩)
            | (go_split_ands; exact ⟨by assumption, by assumption, by apply Below.drew; assumption⟩)
            | go_keep)
          (first
            | (go_at_call 31; refine (HClo.out _ (by first | assumption | (go_split_ands; assumption))).mono ?_; rintro e w9 ⟨g9, cap9, rfl, hg9, hown9, hb9, c9, d9⟩)
            | (go_at_call 51; refine (HDel.out _ g9 cap9 (by first | assumption | (go_split_ands; assumption)) hg9 hown9).mono ?_; rintro e w10 ⟨rfl, hT10, hb10, c10, d10⟩)
            | (go_at_call 41; refine (HLea.out _ _ (by first | assumption | (go_split_ands; assumption)) hT10).mono ?_; rintro e w11 ⟨M2, sl2, rfl, hM2, hb11, c11, d11⟩))
        go_wp2_with fail
        go_ret
        exact ⟨rfl, hbx8.trans (hb11.mono hbx8.size)⟩

end Go.Proofs.Ytcjejcbikgcnbaa

/- ScheduleMore: for every input the law returns true, and its arguments read as they did. -/
namespace Go.Proofs.Ytcjejcbikgcnbaa
open Go.ChangeShapes Go.WideShapes Go.ChangeAt Go.RowKit

theorem scheduleMore_u8 {y : Int} (h : (Lit.int .u8 y).wf = true) : 0 ≤ y ∧ y ≤ 255 := by
  simp [Lit.wf, IntKind.min, IntKind.max, IntKind.signed, IntKind.bits] at h
  omega

set_option maxRecDepth 100000 in
theorem scheduleMore_lifted (os : Os) (started : os.Started) (H : Type) (enc : TypeId × Value → H) :
    ReturnsInHanded {} Try.checked os 9 .any (Rows.scheduleMoreSpec.pre6 enc Try.prog Try.f9 Rows.scheduleMoreRow.domain false) (Rows.scheduleMoreSpec.post enc Try.prog Try.f9 false true false false) := by
  refine law_lifted started (by kernel_rfl) Try.func9 rfl (by kernel_rfl) ?_ ?_ (ChangeSpec.witness6 (enc := enc) (C := Try.checked) false ⟨#[], #[.slice none 0 0, .int .i64 0, .int .i64 0, .int .u8 0, .int .u8 0, .int .u8 0], []⟩ 8 (by kernel_rfl) (by kernel_rfl) (by kernel_rfl) (by kernel_rfl)) ?_
  · rw [Try.params9]
    intro t ht
    simp only [List.mem_cons, List.not_mem_nil, or_false] at ht
    rcases ht with rfl | rfl | rfl | rfl | rfl | rfl <;> exact ⟨by kernel_rfl, of_decide_eq_true (by kernel_rfl)⟩
  · intro ds hds
    match ds, hds with
    | [d0, d1, d2, d3, d4, d5], _ => exact ⟨rfl, rfl, rfl⟩
  · intro W base args ds ps hval hA
    rw [Try.params9] at hA hval
    obtain ⟨v0, vs0, d0, ds0, p0, q0, hargs, rfl, rfl, h0, r0⟩ := trodAll_cons hA
    obtain ⟨v1, vs1, d1, ds1, p1, q1, rfl, rfl, rfl, h1, r1⟩ := trodAll_cons r0
    obtain ⟨v2, vs2, d2, ds2, p2, q2, rfl, rfl, rfl, h2, r2⟩ := trodAll_cons r1
    obtain ⟨v3, vs3, d3, ds3, p3, q3, rfl, rfl, rfl, h3, r3⟩ := trodAll_cons r2
    obtain ⟨v4, vs4, d4, ds4, p4, q4, rfl, rfl, rfl, h4, r4⟩ := trodAll_cons r3
    obtain ⟨v5, vs5, d5, ds5, p5, q5, rfl, rfl, rfl, h5, r5⟩ := trodAll_cons r4
    obtain ⟨rfl, rfl, rfl⟩ := trodAll_nil r5
    obtain rfl : args = #[v0, v1, v2, v3, v4, v5] := by cases args; simp_all
    obtain ⟨a0, n0, c0, rfl⟩ := okWide_slice Try.underlying22 (hval 0 22 v0 rfl rfl)
    obtain ⟨fuel0, hf0⟩ := h0
    obtain ⟨x0, hx0⟩ := tasks_of_trod hf0
    obtain ⟨x1, rfl, -, -, wf1⟩ := open_int Try.underlying3 (hval 1 3 v1 rfl rfl) h1
    clear wf1
    obtain ⟨x2, rfl, -, -, wf2⟩ := open_int Try.underlying3 (hval 2 3 v2 rfl rfl) h2
    clear wf2
    obtain ⟨x3, rfl, -, -, wf3⟩ := open_int Try.underlying5 (hval 3 5 v3 rfl rfl) h3
    obtain ⟨x4, rfl, -, -, wf4⟩ := open_int Try.underlying5 (hval 4 5 v4 rfl rfl) h4
    obtain ⟨x5, rfl, -, -, wf5⟩ := open_int Try.underlying5 (hval 5 5 v5 rfl rfl) h5
    exact lawScheduleMore _ x0 x1 x2 x3 x4 x5 W hx0 (scheduleMore_u8 wf3) (scheduleMore_u8 wf4) (scheduleMore_u8 wf5)

theorem scheduleMore_holds : Rows.ScheduleMoreSaid :=
  OpenClaim.holds_of_wide 9 Try.f9 rfl rfl rfl rfl rfl rfl rfl ⟨rfl, rfl, rfl, rfl, rfl⟩ rfl rfl rfl rfl rfl (by kernel_rfl) Try.func9 (by kernel_rfl)
    (of_decide_eq_true (by kernel_rfl)) (by unfold Func.isWrapper; first | (rw [if_pos (by decide +kernel)]; kernel_rfl) | (rw [if_neg (by decide +kernel)]; exact ⟨rfl, rfl⟩))
    (fun os started H enc _ => scheduleMore_lifted os started H enc)
#print axioms scheduleMore_holds

end Go.Proofs.Ytcjejcbikgcnbaa
