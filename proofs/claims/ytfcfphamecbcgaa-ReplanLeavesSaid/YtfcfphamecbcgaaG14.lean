/- Parts of the proof, laid into one text: CloneT, MoreP, Delete. -/
import Derived.Deep.MidRow
import Derived.Deep.RegionLaw
import Derived.Lib.SliceRun
import Derived.Shelf.SlicesQ.Reverse
import Derived.Test.YtfcfphamecbcgaaG1
import Derived.Test.YtfcfphamecbcgaaG13
import Derived.Test.YtfcfphamecbcgaaG7

/- slices.Clone and slices.Reverse at tasks; append of a task. -/
namespace Go.Proofs.Ytfcfphamecbcgaa
open Go.RowKit Go.Shelf

theorem info_task : (Try.prog.info? 38).map (fun i => (i.zero, i.size, i.bytes)) = some (some (.agg #[.string ⟨#[]⟩, .int .i64 0, .int .i64 0, .int .i64 0, .slice none 0 0]), 5, 64) := by kernel_rfl
theorem flat_len (l : List Task) : (l.flatMap Task.cells).length = l.length * 5 := by
  induction l with
  | nil => rfl
  | cons t l ih => rw [List.flatMap_cons, List.length_append, ih]; simp [Task.cells]; omega
theorem flat_one (l : List Task) : ∀ u ∈ l.flatMap Task.cells, u.oneCell' = true := fun u hu => by
  obtain ⟨t, _, ht⟩ := List.mem_flatMap.1 hu
  simp only [Task.cells, List.mem_cons, List.not_mem_nil, or_false] at ht
  rcases ht with rfl | rfl | rfl | rfl | rfl <;> rfl
theorem TasksAt.of_own {w : World} {base B n : Nat} {v : Value} {l : List Task} (h : w.ownsRow base 38 5 v n (l.flatMap Task.cells)) (hs : ∀ t ∈ l, StrsAt w B t.bv t.bef) (hB : B ≤ w.heap.size) (ho : ∀ t ∈ l, t.ok) : TasksAt w w.heap.size v l := by
  have hn : n = l.length := by have := h.1; rw [flat_len] at this; omega
  subst hn
  exact ⟨Flat.of_own h, fun t ht => (hs t ht).mono hB, ho⟩

set_option maxHeartbeats 1000000 in
theorem cloneTasks (v : Value) (l : List Task) (w : World) (hl : TasksAt w w.heap.size v l) (hlen : l.length ≤ 1000000) :
    Calls Try.prog 32 #[v] w fun e w' => ∃ v', e = .returned v' ∧ w'.ownsRow w.heap.size 38 5 v' l.length (l.flatMap Task.cells) ∧ Below w.heap.size w w' := by
  have HL := Lib.hid hl
  obtain ⟨A, c, rfl, hc1, hc2, hcell⟩ := hl.open_
  clear hl
  cases A with
  | none =>
    have hl0 : l = [] := by
      cases l with
      | nil => rfl
      | cons x r => obtain ⟨b, off, e, _⟩ := hcell 0 (by simp); cases e
    subst hl0
    have heq := fun W => Lib.run_eql_slice_nil (P := Try.prog) W 22 38 none 0 c 0 0 Try.underlying22
    clear hcell
    go_enter Try.func32, Try.ntmps32
    go_wp2
    go_ret
    exact ⟨_, rfl, World.ownsRow_nil _ _ _ _, Below.refl _ _⟩
  | some ad =>
    have heq := fun W => Lib.run_eql_slice_nil (P := Try.prog) W 22 38 (some ad) l.length c 0 0 Try.underlying22
    clear hcell
    go_enter Try.func32, Try.ntmps32
    go_wp2_with (at_builtin; refine wpList_appendAll _ rfl (.tmp 5) (.tmp 6) 22 rfl w.heap.size 38 info_task Try.underlying22 rfl (by decide) (.slice (some ⟨w.heap.size, 0, none⟩) 0 0) 0 [] rfl (World.ownsRow_made w #[] 0 (Nat.le_refl _) (Nat.zero_le _) rfl) w.heap.size l.length (.slice (some ad) l.length c) (l.flatMap Task.cells) rfl (HL.out.below ((Below.refl _ _).alloc (Nat.le_refl _) _) (Nat.le_refl _)).1 (flat_len l) (flat_one l) (by unfold maxLen; omega) (by omega) (by simp) ?_; intro v1 w1 hown1 hg1 hat1)
    go_ret
    refine ⟨_, rfl, by simpa using hown1, ?_⟩
    exact ((Below.refl w.heap.size w).alloc (Nat.le_refl _) _).grown hg1 (by simp) (fun k hk => by simp [Value.ownBlock] at hk; omega)

/-! ### slices.Reverse -/
theorem flatK_get (l : List Task) (j : Nat) (hj : j < l.length * 5) : (l.flatMap Task.cells)[j]? = some ((Go.Sort.flatK Task.cells 5 l.toArray)[j]!) := by
  have h5 : j / 5 < l.length := by omega
  have h := flat_get l (j / 5) (j % 5) h5 (by omega)
  rw [show j / 5 * 5 + j % 5 = j by omega] at h
  rw [h, Go.Sort.get_flatK Task.cells 5 l.toArray j (by simpa using hj)]
  have e : l.toArray[j / 5]! = l[j / 5] := by rw [getElem!_pos _ _ (by simpa using h5)]; simp
  rw [e]
  have hl : j % 5 < l[j / 5].cells.length := by show j % 5 < 5; omega
  rw [List.getElem?_eq_getElem hl, getElem!_pos l[j / 5].cells (j % 5) hl]
theorem grown_putRow {α : Type} [Inhabited α] (enc : α → Value) (w : World) (n blk off : Nat) (d : Array α) : w.grownBy (Go.Sort.putRow enc (Go.Sort.ahead w n) blk off d) (some blk) :=
  ⟨rfl, rfl, rfl, by simp, fun i _ hne => by
    simp only [Go.Sort.putRow, Go.Sort.mapBlock, Go.Sort.heap_ahead, Array.getElem?_modify]
    rw [if_neg (fun e => hne (by rw [e]))]⟩

end Go.Proofs.Ytfcfphamecbcgaa

/- Greater limits, and fewer tasks, never take longer. No program in sight. -/
namespace Go.Proofs.Ytfcfphamecbcgaa
open Go.RowKit Go.Shelf

section
variable {l : List Task} {c p c' p' : Int}
theorem any_more (hc : c ≤ c') (hp : p ≤ p') (h : l.any (tooMuch c p) = false) : l.any (tooMuch c' p') = false := by
  rw [List.any_eq_false] at h ⊢
  intro t ht
  have := h t ht
  unfold tooMuch at this ⊢
  simp at this ⊢
  omega
theorem check_more (hc : c ≤ c') (hp : p ≤ p') {s : List Int} (hlen : s.length = l.length) (h : checkB l c p s = true) : checkB l c' p' s = true := by
  rw [keeps_check hlen] at h ⊢
  unfold keepsB at h ⊢
  rw [Bool.and_eq_true, List.all_eq_true, List.all_eq_true] at h ⊢
  refine ⟨h.1, fun i hi => ?_⟩
  have := h.2 i hi
  unfold fitsB at this ⊢
  rw [Bool.and_eq_true, decide_eq_true_iff, decide_eq_true_iff] at this ⊢
  omega
theorem least_more (hR : RightT l) (hc0 : 0 ≤ c ∧ 0 ≤ p) (hc : c ≤ c') (hp : p ≤ p') (hfit : l.any (tooMuch c p) = false) : (leastN l c' p').1 ≤ (leastN l c p).1 := by
  obtain ⟨h1, h2, h3, h4⟩ := least_keeps hR hc0 hfit
  have h5 := least_opt (c := c') (p := p') hR (by omega) (any_more hc hp hfit) h2 (fun i hi => by rw [atI_get (by omega)]; exact (h3 _ (List.getElem_mem _)).1) (check_more hc hp h2 h1)
  omega
theorem least_ge0 (hR : RightT l) (hc0 : 0 ≤ c ∧ 0 ≤ p) (hfit : l.any (tooMuch c p) = false) : 0 ≤ (leastN l c p).1 := by
  rw [(least_keeps hR hc0 hfit).2.2.2]
  exact lenTo_ge0 _
theorem least_nil (hR : RightT l) (hc0 : 0 ≤ c ∧ 0 ≤ p) (hfit : l.any (tooMuch c p) = false) (h0 : l.length = 0) : (leastN l c p).1 = 0 := by
  rw [(least_keeps hR hc0 hfit).2.2.2, h0]
  rfl
theorem critL_pos (hR : RightT l) (h0 : 0 < l.length) : (critL l l.length).length ≠ 0 := by
  have hu := (upTo_bd hR l.length (Nat.le_refl _)).2.2 0 h0
  have hb := up_bd hR h0
  have hl := (fieldB_len (hR.field 0 h0)).1
  rw [lenAt_eq h0] at hb
  obtain ⟨j, hj, hg⟩ := goes_exists (sum := 0) (a := ⟨#[]⟩) hR (.inl ⟨rfl, rfl⟩) (by omega)
  unfold goesOn at hg
  rw [Bool.and_eq_true, Bool.and_eq_true, decide_eq_true_iff] at hg
  have hm := (mem_crit hR hj).2 hg.1.1
  intro e
  rw [List.length_eq_zero_iff.1 e] at hm
  cases hm
/-- All indices but one. -/
def butOne (n i : Nat) : List Nat := (List.range n).eraseIdx i
theorem mem_butOne {n i j : Nat} : j ∈ butOne n i ↔ j < n ∧ j ≠ i := by
  unfold butOne
  rw [List.mem_eraseIdx_iff_getElem]
  constructor
  · rintro ⟨k, hk, hne, rfl⟩
    simp at hk ⊢
    exact ⟨hk, hne⟩
  · rintro ⟨h1, h2⟩
    exact ⟨j, by simpa using h1, h2, by simp⟩
theorem map_tk (l : List Task) : (List.range l.length).map (tk l) = l := by
  apply List.ext_getElem
  · simp
  · intro i h1 h2
    simp [tk_get h2]
theorem pick_butOne (l : List Task) (i : Nat) : pickT l (butOne l.length i) = l.eraseIdx i := by
  unfold pickT butOne
  rw [List.eraseIdx_eq_take_drop_succ, List.map_append, List.map_take, List.map_drop, map_tk, ← List.eraseIdx_eq_take_drop_succ]
theorem sub_butOne (hR : RightT l) {i : Nat} (hi : i < l.length) (h : (l.any fun t => decide (l[i].name ∈ t.bef)) = false) : SubT l (butOne l.length i) (l.eraseIdx i) := by
  rw [← pick_butOne]
  refine sub_pick hR (List.nodup_range.sublist (List.eraseIdx_sublist _ _)) (fun j hj => (mem_butOne.1 hj).1) fun j hj k hk => ?_
  have hjl := (mem_butOne.1 hj).1
  obtain ⟨h1, h2, h3⟩ := row_edge hR hjl hk
  refine mem_butOne.2 ⟨h1, fun e => ?_⟩
  rw [List.any_eq_false] at h
  have := h _ (List.getElem_mem hjl)
  subst e
  exact this (by simpa using h3)
end

end Go.Proofs.Ytfcfphamecbcgaa

/- slices.Delete of one task of a row of the call's own. -/
namespace Go.Proofs.Ytfcfphamecbcgaa
open Go.RowKit Go.Shelf

def zeroT : List Value := [.string ⟨#[]⟩, .int .i64 0, .int .i64 0, .int .i64 0, .slice none 0 0]
theorem clearOne (b o c : Nat) (w : World) (hc : ∀ j, j < 5 → (w.cell? ⟨b, o + j, none⟩).isSome = true) (hf : ∀ j, j < 5 → w.frozen? ⟨b, o + j, none⟩ = false) (ty : TypeId) :
    (Builtin.clear_ #[22] ty #[.slice (some ⟨b, o, none⟩) 1 c]).run Try.prog w = .ok (.tuple #[]) (w.setCells b o zeroT) := by
  have hst := run_storeCells_cells (P := Try.prog) b o zeroT 0 w (by simpa [zeroT] using hc) (by simpa [zeroT] using hf) (by intro v hv; simp [zeroT] at hv; rcases hv with rfl | rfl | rfl <;> rfl)
  simp only [Nat.add_zero] at hst
  have hz : (Builtin.zeroCells (Value.agg #[.string ⟨#[]⟩, .int .i64 0, .int .i64 0, .int .i64 0, .slice none 0 0]).cells 1).toList = zeroT := by kernel_rfl
  simp [Builtin.clear_, run_underlying Try.underlying22, Try.zeroValue38, hz, hst]

theorem size_setCellsT (b : Nat) : ∀ (vs : List Value) (o : Nat) (w : World), (w.setCells b o vs).heap.size = w.heap.size
  | [], _, _ => rfl
  | v :: r, o, w => by rw [World.setCells, size_setCellsT b r]; simp [World.setCell]
theorem heap_setCellsT (b : Nat) : ∀ (vs : List Value) (o : Nat) (w : World) {k : Nat}, k ≠ b → (w.setCells b o vs).heap[k]? = w.heap[k]?
  | [], _, _, _, _ => rfl
  | v :: r, o, w, k, h => by rw [World.setCells, heap_setCellsT b r _ _ h]; exact Below.heap_setCell w _ v k h
theorem setCells_io (b : Nat) : ∀ (vs : List Value) (o : Nat) (w : World), (w.setCells b o vs).os = w.os ∧ (w.setCells b o vs).tape = w.tape ∧ (w.setCells b o vs).output = w.output
  | [], _, _ => ⟨rfl, rfl, rfl⟩
  | v :: r, o, w => by
    obtain ⟨h1, h2, h3⟩ := setCells_io b r (o + 1) (w.setCell ⟨b, o, none⟩ v)
    exact ⟨h1, h2, h3⟩
/-- The cells of the tasks behind the one that goes. -/
def movedT (l : List Task) (i : Nat) : List Value := (l.drop (i + 1)).flatMap Task.cells
theorem movedT_len (l : List Task) (i : Nat) : (movedT l i).length = (l.length - (i + 1)) * 5 := by unfold movedT; rw [flat_len, List.length_drop]
theorem movedT_get (l : List Task) (i t : Nat) (ht : t < (l.length - (i + 1)) * 5) : (movedT l i)[t]? = (l.flatMap Task.cells)[(i + 1) * 5 + t]? := by
  have h := List.take_append_drop (i + 1) l
  have e : l.flatMap Task.cells = (l.take (i + 1)).flatMap Task.cells ++ movedT l i := by
    unfold movedT
    rw [← List.flatMap_append, h]
  have hl : ((l.take (i + 1)).flatMap Task.cells).length = (i + 1) * 5 := by rw [flat_len, List.length_take]; omega
  rw [e, List.getElem?_append_right (by omega), hl]
  congr 1
  omega
theorem erased (l : List Task) (i : Nat) (_hi : i < l.length) : (l.eraseIdx i).flatMap Task.cells = (l.take i).flatMap Task.cells ++ movedT l i := by
  rw [List.eraseIdx_eq_take_drop_succ, List.flatMap_append]
  rfl

set_option maxRecDepth 1000000 in
set_option maxHeartbeats 4000000 in
theorem deleteTasks (base g cap : Nat) (l : List Task) (i : Nat) (w : World) (hi : i < l.length) (h100 : l.length ≤ 100) (h : w.ownsRow base 38 5 (.slice (some ⟨g, 0, none⟩) l.length cap) l.length (l.flatMap Task.cells)) :
    Calls Try.prog 31 #[.slice (some ⟨g, 0, none⟩) l.length cap, .int .i64 i, .int .i64 ((i : Int) + 1)] w fun e w' => e = .returned (.slice (some ⟨g, 0, none⟩) (l.length - 1) cap) ∧
      Flat w' w'.heap.size (.slice (some ⟨g, 0, none⟩) (l.length - 1) cap) (l.length - 1) ((l.eraseIdx i).flatMap Task.cells) ∧ w.grownBy w' (some g) := by
  rcases h.2 with ⟨h1, _⟩ | ⟨g', cap', cur, h1, hb, hg, hnc, hcm, hcs, ht⟩
  · cases h1
  injection h1 with e1 _ e2
  injection e1 with e1
  injection e1 with e1
  subst e1 e2
  obtain ⟨i0, hi0, hz0, hz1, hz2⟩ := info_parts info_task
  have hglt := (Array.getElem?_eq_some_iff.1 hg).1
  have hcell : ∀ q k, k < cap * 5 → ((w.drewN q).cell? ⟨g, k, none⟩).isSome = true ∧ (w.drewN q).frozen? ⟨g, k, none⟩ = false := fun q k hk => by
    constructor
    · show (w.cell? ⟨g, k, none⟩).isSome = true
      rw [cell_of_row w g k cur _ (0, 0) hg, Array.getElem?_eq_getElem (by omega)]
      rfl
    · show w.frozen? ⟨g, k, none⟩ = false
      simp [World.frozen?, hg]
  have hread : ∀ k, k < l.length * 5 → w.cell? ⟨g, k, none⟩ = (l.flatMap Task.cells)[k]? := fun k hk => by
    rw [cell_of_row w g k cur _ (0, 0) hg, ← ht, List.getElem?_take, if_pos hk]
    simp
  obtain ⟨A, hA, hsrc⟩ : ∃ A : Addr, (if cap = i + 1 then some (⟨g, 0, none⟩ : Addr) else some ⟨g, (i + 1) * 5, none⟩) = some A ∧ Hid (∀ t u, (movedT l i)[t]? = some u → w.drew.cell? (A.add t) = some u) := by
    by_cases hc : cap = i + 1
    · refine ⟨⟨g, 0, none⟩, by simp [hc], fun t u hu => ?_⟩
      have h0 : (movedT l i).length = 0 := by rw [movedT_len]; omega
      rw [List.length_eq_zero_iff.1 h0] at hu
      simp at hu
    · refine ⟨⟨g, (i + 1) * 5, none⟩, by simp [hc], fun t u hu => ?_⟩
      have ht : t < (l.length - (i + 1)) * 5 := by
        have := (List.getElem?_eq_some_iff.1 hu).1
        rwa [movedT_len] at this
      rw [movedT_get l i t ht] at hu
      rw [Addr.add_lit]
      exact (hread _ (by omega)).trans hu
  have s1 : Hid ((movedT l i).length = (l.length - (i + 1)) * 5) := movedT_len l i
  have s2 : Hid (∀ u ∈ movedT l i, u.oneCell' = true) := flat_one _
  have s3 : Hid (∀ t, t < (movedT l i).length → (w.drew.cell? ⟨g, 0 + i * 5 + t, none⟩).isSome = true ∧ w.drew.frozen? ⟨g, 0 + i * 5 + t, none⟩ = false) := fun t ht => by
    rw [movedT_len] at ht
    rw [Nat.zero_add]
    exact hcell 1 _ (by omega)
  obtain ⟨W1, hW1⟩ : ∃ W1, W1 = w.drew.setCells g (0 + i * 5) (movedT l i) := ⟨_, rfl⟩
  have hW1b : ∀ k, k < cap * 5 → (W1.cell? ⟨g, k, none⟩).isSome = true ∧ W1.frozen? ⟨g, k, none⟩ = false := fun k hk => by
    rw [hW1, World.frozen?_setCells]
    exact ⟨World.isSome_setCells g _ _ _ _ (hcell 1 k hk).1, (hcell 1 k hk).2⟩
  have hcl : ∀ ty, (Builtin.clear_ #[22] ty #[.slice (some ⟨g, (l.length - 1) * 5, none⟩) 1 (cap - (l.length - 1))]).run Try.prog W1 = .ok (.tuple #[]) (W1.setCells g ((l.length - 1) * 5) zeroT) := fun ty =>
    clearOne g _ _ W1 (fun j hj => (hW1b _ (by omega)).1) (fun j hj => (hW1b _ (by omega)).2) ty
  have HW1 : Hid (W1 = w.drew.setCells g (0 + i * 5) (movedT l i)) := hW1
  have HF : Hid (Flat (W1.setCells g ((l.length - 1) * 5) zeroT) (W1.setCells g ((l.length - 1) * 5) zeroT).heap.size (.slice (some ⟨g, 0, none⟩) (l.length - 1) cap) (l.length - 1) ((l.eraseIdx i).flatMap Task.cells) ∧ w.grownBy (W1.setCells g ((l.length - 1) * 5) zeroT) (some g)) := by
    have hlE : ((l.eraseIdx i).flatMap Task.cells).length = (l.length - 1) * 5 := by rw [flat_len, List.length_eraseIdx, if_pos hi]
    refine ⟨⟨_, _, rfl, by omega, hcm, fun _ => ⟨g, 0, rfl, ?_, fun j u hu => ?_⟩⟩, ?_⟩
    · rw [size_setCellsT, hW1, size_setCellsT]
      exact hglt
    · have hj : j < (l.length - 1) * 5 := by
        have := (List.getElem?_eq_some_iff.1 hu).1
        omega
      rw [Nat.zero_add, World.cell?_setCells_out _ _ _ _ _ (fun _ _ => .inl hj), hW1, Nat.zero_add]
      rw [erased l i hi] at hu
      by_cases hji : j < i * 5
      · rw [World.cell?_setCells_out _ _ _ _ _ (fun _ _ => .inl hji)]
        rw [List.getElem?_append_left (by rw [flat_len, List.length_take]; omega)] at hu
        show w.cell? _ = _
        rw [hread j (by omega), ← hu]
        conv => lhs; rw [← List.take_append_drop i l, List.flatMap_append]
        rw [List.getElem?_append_left (by rw [flat_len, List.length_take]; omega)]
      · obtain ⟨t, rfl⟩ : ∃ t, j = i * 5 + t := ⟨j - i * 5, by omega⟩
        rw [List.getElem?_append_right (by rw [flat_len, List.length_take]; omega), flat_len, List.length_take, Nat.min_eq_left (by omega), Nat.add_sub_cancel_left] at hu
        have htl : t < (movedT l i).length := (List.getElem?_eq_some_iff.1 hu).1
        have hm := movedT_len l i
        rw [World.cell?_setCells_in g (movedT l i) (i * 5) w.drew (fun j hj => show (w.drew.cell? _).isSome = true from (hcell 1 _ (by omega)).1) t htl, ← hu, List.getElem?_eq_getElem]
    · refine ⟨?_, ?_, ?_, ?_, fun k hk hne => ?_⟩
      · rw [(setCells_io _ _ _ _).1, hW1, (setCells_io _ _ _ _).1]; rfl
      · rw [(setCells_io _ _ _ _).2.1, hW1, (setCells_io _ _ _ _).2.1]; rfl
      · rw [(setCells_io _ _ _ _).2.2, hW1, (setCells_io _ _ _ _).2.2]; rfl
      · rw [size_setCellsT, hW1, size_setCellsT]; exact Nat.le_refl _
      · have hkg : k ≠ g := fun e => hne (by rw [e])
        rw [heap_setCellsT _ _ _ _ hkg, hW1, heap_setCellsT _ _ _ _ hkg]
        rfl
  have hic : i ≤ cap := by omega
  have hjc : i + 1 ≤ cap := by omega
  unfold maxLen at hcm
  clear h hW1 hW1b hread hcell ht hg hcs
  generalize hn : l.length = n at *
  obtain ⟨n1, rfl⟩ : ∃ n1, n = n1 + 1 := ⟨n - 1, by omega⟩
  simp only [Nat.add_sub_cancel] at hcl HF ⊢
  have hwr : IntKind.i64.wrap ((i : Int) + 1) = (i : Int) + 1 := IntWalk.i64_in _ (by omega)
  have hp0 : (0 : Int) ≤ (i : Int) + 1 := by omega
  have hp1 : (i : Int) + 1 ≤ ((n1 + 1 : Nat) : Int) := by omega
  have hp1' : (i : Int) + 1 ≤ (n1 : Int) + 1 := by omega
  have hp2 : ((i : Int) + 1).toNat = i + 1 := by omega
  have Hn := Lib.hid hn
  have hsum : i + (n1 + 1 - (i + 1)) = n1 := by omega
  have hn1c : ¬ cap = n1 := by omega
  have hn1c' : n1 ≤ cap := by omega
  clear hn
  go_enter Try.func31, Try.ntmps31
  go_wp2_with fail
  go_region_law (refine step_append_room rfl (.tmp 22) (.tmp 25) 22 rfl 38 i0 5 Try.underlying22 hi0 hz1 g 0 i cap (by simp [Act.eval, Act.put]) A (n1 + 1 - (i + 1)) (cap - (i + 1)) (movedT l i) (by simp [Act.eval, Act.put]) s1.out hsrc.out s2.out (by omega) s3.out ?_; rw [← HW1.out])
  rw [show i + (n1 - i) = n1 by omega]
  go_simp
  have hq0 : (0 : Int) ≤ (n1 : Int) + 1 := by omega
  have hq1 : ((n1 : Int) + 1).toNat = n1 + 1 := by omega
  have hq2 : (n1 : Int) ≤ (n1 : Int) + 1 := by omega
  have hq3 : (n1 : Int) + 1 ≤ (cap : Int) := by omega
  clear hwr hp0 hp1 hp1' hp2
  go_wp2_with fail
  go_ret
  exact ⟨rfl, HF.out.1, HF.out.2⟩

end Go.Proofs.Ytfcfphamecbcgaa
