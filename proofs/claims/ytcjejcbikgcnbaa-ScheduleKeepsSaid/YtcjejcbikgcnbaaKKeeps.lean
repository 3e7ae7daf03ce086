/- For every input the law returns true, and its arguments read as they did: LawLists, MoreP, CloneT, Two, LawKeeps, RowKeeps. -/
import Derived.Deep.AppendLies
import Derived.Deep.RegionLaw
import Derived.Shelf.SlicesQ.Reverse
import Derived.Test.YtcjejcbikgcnbaaG1
import Derived.Test.YtcjejcbikgcnbaaG10
import Derived.Test.YtcjejcbikgcnbaaG12
import Derived.Test.YtcjejcbikgcnbaaG13
import Derived.Test.YtcjejcbikgcnbaaG7

/- The law ScheduleLists: the walk. -/
namespace Go.Proofs.Ytcjejcbikgcnbaa
open Go.RowKit Go.Shelf

theorem shortB_len {l : List Task} {A : Option Addr} {n c : Nat} (h : shortB l [.slice A n c] = true) : n ≤ 12 := by
  unfold shortB at h
  simp only [Bool.and_eq_true, Bool.not_eq_true', List.any_cons, List.any_nil, Bool.or_false] at h
  have := h.2
  unfold longV at this
  simpa using this
theorem order_placed {l : List Task} {xs : List Int} (h : orderN l xs = 0) : xs.length = l.length ∧ xs.any (outN l.length) = false ∧ xs.Nodup ∧ Placed l (natsOf xs) := by
  unfold orderN at h
  split at h
  · cases h
  · rename_i h1
    split at h
    · cases h
    · rename_i h2
      split at h
      · cases h
      · rename_i h3
        split at h
        · rename_i h4
          have e1 : xs.length = l.length := by simpa using h1
          have e2 : xs.any (outN l.length) = false := by simpa using h2
          have e3 : xs.Nodup := by simpa using h3
          exact ⟨e1, e2, e3, placed_of (natsOf_nodup e2 e3) (natsOf_lt e2) (by rw [natsOf_len, e1]; exact h4)⟩
        · cases h

set_option maxRecDepth 100000 in
set_option maxHeartbeats 8000000 in
theorem lawScheduleLists (v u : Value) (l : List Task) (c p : Int) (xs : List Int) (w : World) (hl : TasksAt w w.heap.size v l) (hs : IntsAt w w.heap.size u xs) (hw : Wide xs) :
    Calls Try.prog 12 #[v, .int .i64 c, .int .i64 p, u] w fun e w' => e = .returned (.bool true) ∧ Below w.heap.size w w' := by
  have hA := lawAwake43 w
  have HT : Hid (∀ w1, Below w.heap.size w w1 → TasksAt w1 w1.heap.size v l) := fun w1 hb => (hl.below hb (Nat.le_refl _)).mono hb.size
  have HS : Hid (∀ w1, Below w.heap.size w w1 → IntsAt w1 w1.heap.size u xs) := fun w1 hb => (hs.below hb (Nat.le_refl _)).mono hb.size
  have HW := Lib.hid hw
  obtain ⟨A1, c1, rfl, hB1, hB2, -⟩ := hs.open_
  have hLong := fun w1 (hb : Below w.heap.size w w1) => lawShort v (.slice (some ⟨w1.heap.size, 0, none⟩) 1 1) l [.slice A1 xs.length c1] (w1.alloc (.cells #[.slice A1 xs.length c1] 29)) (HT.out _ (hb.alloc hb.size _)) (oneRow w1 _ _) (by
    intro u hu
    rw [List.mem_singleton.1 hu]
    exact ⟨A1, xs.length, c1, rfl, hB1, by unfold maxLen at hB2; omega⟩)
  have HVa : Hid (∀ w1, Below w.heap.size w w1 → Calls Try.prog 42 #[v, .int .i64 c, .int .i64 p] w1 fun e w' => e = .returned (.bool (validB l c p)) ∧ Below w1.heap.size w1 w') := fun w1 hb => refValid v l c p w1 (HT.out w1 hb)
  have HNe : Hid (∀ w1, Below w.heap.size w w1 → Calls Try.prog 43 #[v, .int .i64 c, .int .i64 p] w1 fun e w' => e = .returned (.bool (l.any (tooMuch c p))) ∧ w1 = w') := fun w1 hb => refNeeded v l c p w1.heap.size w1 (HT.out w1 hb)
  have hb0 : ∀ (w1 : World) o, Below w.heap.size w w1 → Below w.heap.size w (w1.alloc o) := fun w1 o hb => hb.alloc hb.size o
  obtain ⟨A, cc, rfl, hA1, hA2, -⟩ := hl.open_
  unfold maxLen at hA2 hB2
  clear hl hs hw
  cases hlg : shortB l [.slice A1 xs.length c1] with
  | false =>
    rw [hlg] at hLong
    clear hlg
    go_enter Try.func12, Try.ntmps12
    go_wp2_with (first
      | (go_at_call 37; refine hA.mono ?_; rintro e w1 ⟨rfl, hb1⟩)
      | (go_at_call 38; refine (hLong _ hb1).mono ?_; rintro e w2 ⟨rfl, hb2⟩))
    go_ret
    exact ⟨rfl, (hb0 _ _ hb1).trans (hb2.mono (hb0 _ _ hb1).size)⟩
  | true =>
    have hx12 := shortB_len hlg
    rw [hlg] at hLong
    have HLi : Hid (∀ w1, Below w.heap.size w w1 → Calls Try.prog 56 #[.slice A l.length cc, .int .i64 c, .int .i64 p, .slice A1 xs.length c1] w1 (ListWPost l c p xs w1)) := fun w1 hb => schedList _ _ l c p xs w1 (HT.out w1 hb) (HS.out w1 hb) HW.out (by omega)
    clear hlg
    go_enter Try.func12, Try.ntmps12
    go_wp2_with (first
      | (go_at_call 37; refine hA.mono ?_; rintro e w1 ⟨rfl, hb1⟩)
      | (go_at_call 38; refine (hLong _ hb1).mono ?_; rintro e w2 ⟨rfl, hb2⟩; have hbx := (hb0 _ (.cells #[.slice A1 xs.length c1] 29) hb1).trans (hb2.mono (hb0 _ (.cells #[.slice A1 xs.length c1] 29) hb1).size); clear hb1 hb2 hA hLong))
    refine (HLi.out _ hbx).mono ?_
    rintro e w3 ⟨hb3, hpost⟩
    have hbx3 := hbx.trans (hb3.mono hbx.size)
    have hVa := HVa.out _ hbx3
    rcases hpost with ⟨hv, rfl⟩ | ⟨hv, hn, rfl⟩ | ⟨hv, hn, ho, rfl⟩ | ⟨hv, hn, ho, S, rfl, hown⟩
    · rw [hv] at hVa
      clear hv hb3 hbx
      go_wp2_with (go_at_call 42; refine hVa.mono ?_; rintro e w4 ⟨rfl, hb4⟩)
      go_ret
      exact ⟨rfl, hbx3.trans (hb4.mono hbx3.size)⟩
    · rw [hv] at hVa
      rw [hn] at HNe
      clear hv hn hb3 hbx
      go_wp2_with (first
        | (go_at_call 42; refine hVa.mono ?_; rintro e w4 ⟨rfl, hb4⟩; have hbx4 := hbx3.trans (hb4.mono hbx3.size); have hNe := HNe.out _ hbx4)
        | (go_at_call 43; refine hNe.mono ?_; rintro e w5 ⟨rfl, rfl⟩))
      go_ret
      exact ⟨rfl, hbx4⟩
    · have hR := (valid_right hv).1
      have HOr : Hid (∀ w1, Below w.heap.size w w1 → Calls Try.prog 57 #[.slice A l.length cc, .slice A1 xs.length c1] w1 fun e w' => e = .returned (.int .i64 (orderN l xs)) ∧ ∃ q, w1.drewN q = w') := fun w1 hb => refOrder _ _ l xs w1 hR (HT.out w1 hb) (HS.out w1 hb) HW.out
      rw [hv] at hVa
      rw [hn] at HNe
      clear hv hn hb3 hbx hR
      generalize orderN l xs = on at *
      have hob : (on != 0) = true := bne_iff_ne.2 ho
      have hoe : (on == on) = true := beq_self_eq_true on
      clear ho
      go_wp2_with (first
        | (go_at_call 42; refine hVa.mono ?_; rintro e w4 ⟨rfl, hb4⟩; have hbx4 := hbx3.trans (hb4.mono hbx3.size); have hNe := HNe.out _ hbx4; have hOr := HOr.out _ hbx4)
        | (go_at_call 43; refine hNe.mono ?_; rintro e w5 ⟨rfl, rfl⟩)
        | (go_at_call 57; refine hOr.mono ?_; rintro e w6 ⟨rfl, q, rfl⟩))
      go_ret
      exact ⟨rfl, below_drewN hbx4 q⟩
    · obtain ⟨hR, hc0, -, hp0, -⟩ := valid_right hv
      obtain ⟨e1, e2, e3, hP⟩ := order_placed ho
      have HOr : Hid (∀ w1, Below w.heap.size w w1 → Calls Try.prog 57 #[.slice A l.length cc, .slice A1 xs.length c1] w1 fun e w' => e = .returned (.int .i64 0) ∧ ∃ q, w1.drewN q = w') := fun w1 hb => by
        have := refOrder _ _ l xs w1 hR (HT.out w1 hb) (HS.out w1 hb) HW.out
        rw [ho] at this
        exact this
      have HRL : Hid (∀ w1, Below w.heap.size w w1 → Calls Try.prog 58 #[.slice A l.length cc, .int .i64 c, .int .i64 p, .slice A1 xs.length c1] w1 (ListPost l c p (natsOf xs) w1)) := fun w1 hb =>
        refList _ _ l c p (natsOf xs) w1 hR ⟨hc0, hp0⟩ hn hP (HT.out w1 hb) (by rw [ints_natsOf e2]; exact HS.out w1 hb)
      have HOw := Lib.hid hown
      have HLn : Hid ((listAll l c p (natsOf xs)).length = l.length) := listR_len _
      unfold ListPost at HRL
      rw [hv] at hVa
      rw [hn] at HNe
      clear hv hn hb3 hbx hR hc0 hp0 e1 e2 e3 hP ho hown
      go_wp2_with (first
        | (go_at_call 42; refine hVa.mono ?_; rintro e w4 ⟨rfl, hb4⟩; have hbx4 := hbx3.trans (hb4.mono hbx3.size); have hNe := HNe.out _ hbx4; have hOr := HOr.out _ hbx4)
        | (go_at_call 43; refine hNe.mono ?_; rintro e w5 ⟨rfl, rfl⟩)
        | (go_at_call 57; refine hOr.mono ?_; rintro e w6 ⟨rfl, q, rfl⟩))
      have hbx6 := below_drewN hbx4 q
      have hb46 := below_drewN hb4 q
      refine (HRL.out _ hbx6).mono ?_
      rintro e w7 ⟨hb7, O, rfl, hown7⟩
      have hbx7 := hbx6.trans (hb7.mono hbx6.size)
      have hb37 := hb46.trans (hb7.mono hb46.size)
      have hi3 : IntsAt w3 w3.heap.size (.slice (some ⟨S, 0, none⟩) l.length l.length) (listAll l c p (natsOf xs)) := RowAt.of_own HOw.out
      have hE := equalInt _ _ _ _ w7.heap.size w7 ((hi3.below hb37 (Nat.le_refl _)).mono hb37.size) (RowAt.of_own hown7)
      rw [decide_eq_true rfl] at hE
      clear hb4 hb46 hb7 hown7 hi3 hb37 hNe hOr hVa
      go_wp2_with fail
      refine hE.mono ?_
      rintro e w8 ⟨rfl, q2, rfl⟩
      go_wp2_with fail
      go_ret
      exact ⟨rfl, below_drewN hbx7 q2⟩

end Go.Proofs.Ytcjejcbikgcnbaa

/- Greater limits, and fewer tasks, never take longer. No program in sight. -/
namespace Go.Proofs.Ytcjejcbikgcnbaa
open Go.RowKit Go.Shelf

section
variable {l : List Task} {c p c' p' : Int}
theorem any_more (hc : c ≤ c') (hp : p ≤ p') (h : l.any (tooMuch c p) = false) : l.any (tooMuch c' p') = false := by
  rw [List.any_eq_false] at h ⊢
  intro t ht
  have := h t ht
  unfold tooMuch at this ⊢
  simp at this ⊢
  omega
theorem check_more (hc : c ≤ c') (hp : p ≤ p') {s : List Int} (hlen : s.length = l.length) (h : checkB l c p s = true) : checkB l c' p' s = true := by
  rw [keeps_check hlen] at h ⊢
  unfold keepsB at h ⊢
  rw [Bool.and_eq_true, List.all_eq_true, List.all_eq_true] at h ⊢
  refine ⟨h.1, fun i hi => ?_⟩
  have := h.2 i hi
  unfold fitsB at this ⊢
  rw [Bool.and_eq_true, decide_eq_true_iff, decide_eq_true_iff] at this ⊢
  omega
theorem least_more (hR : RightT l) (hc0 : 0 ≤ c ∧ 0 ≤ p) (hc : c ≤ c') (hp : p ≤ p') (hfit : l.any (tooMuch c p) = false) : (leastN l c' p').1 ≤ (leastN l c p).1 := by
  obtain ⟨h1, h2, h3, h4⟩ := least_keeps hR hc0 hfit
  have h5 := least_opt (c := c') (p := p') hR (by omega) (any_more hc hp hfit) h2 (fun i hi => by rw [atI_get (by omega)]; exact (h3 _ (List.getElem_mem _)).1) (check_more hc hp h2 h1)
  omega
theorem least_ge0 (hR : RightT l) (hc0 : 0 ≤ c ∧ 0 ≤ p) (hfit : l.any (tooMuch c p) = false) : 0 ≤ (leastN l c p).1 := by
  rw [(least_keeps hR hc0 hfit).2.2.2]
  exact lenTo_ge0 _
theorem least_nil (hR : RightT l) (hc0 : 0 ≤ c ∧ 0 ≤ p) (hfit : l.any (tooMuch c p) = false) (h0 : l.length = 0) : (leastN l c p).1 = 0 := by
  rw [(least_keeps hR hc0 hfit).2.2.2, h0]
  rfl
theorem critL_pos (hR : RightT l) (h0 : 0 < l.length) : (critL l l.length).length ≠ 0 := by
  have hu := (upTo_bd hR l.length (Nat.le_refl _)).2.2 0 h0
  have hb := up_bd hR h0
  have hl := (fieldB_len (hR.field 0 h0)).1
  rw [lenAt_eq h0] at hb
  obtain ⟨j, hj, hg⟩ := goes_exists (sum := 0) (a := ⟨#[]⟩) hR (.inl ⟨rfl, rfl⟩) (by omega)
  unfold goesOn at hg
  rw [Bool.and_eq_true, Bool.and_eq_true, decide_eq_true_iff] at hg
  have hm := (mem_crit hR hj).2 hg.1.1
  intro e
  rw [List.length_eq_zero_iff.1 e] at hm
  cases hm
/-- All indices but one. -/
def butOne (n i : Nat) : List Nat := (List.range n).eraseIdx i
theorem mem_butOne {n i j : Nat} : j ∈ butOne n i ↔ j < n ∧ j ≠ i := by
  unfold butOne
  rw [List.mem_eraseIdx_iff_getElem]
  constructor
  · rintro ⟨k, hk, hne, rfl⟩
    simp at hk ⊢
    exact ⟨hk, hne⟩
  · rintro ⟨h1, h2⟩
    exact ⟨j, by simpa using h1, h2, by simp⟩
theorem map_tk (l : List Task) : (List.range l.length).map (tk l) = l := by
  apply List.ext_getElem
  · simp
  · intro i h1 h2
    simp [tk_get h2]
theorem pick_butOne (l : List Task) (i : Nat) : pickT l (butOne l.length i) = l.eraseIdx i := by
  unfold pickT butOne
  rw [List.eraseIdx_eq_take_drop_succ, List.map_append, List.map_take, List.map_drop, map_tk, ← List.eraseIdx_eq_take_drop_succ]
theorem sub_butOne (hR : RightT l) {i : Nat} (hi : i < l.length) (h : (l.any fun t => decide (l[i].name ∈ t.bef)) = false) : SubT l (butOne l.length i) (l.eraseIdx i) := by
  rw [← pick_butOne]
  refine sub_pick hR (List.nodup_range.sublist (List.eraseIdx_sublist _ _)) (fun j hj => (mem_butOne.1 hj).1) fun j hj k hk => ?_
  have hjl := (mem_butOne.1 hj).1
  obtain ⟨h1, h2, h3⟩ := row_edge hR hjl hk
  refine mem_butOne.2 ⟨h1, fun e => ?_⟩
  rw [List.any_eq_false] at h
  have := h _ (List.getElem_mem hjl)
  subst e
  exact this (by simpa using h3)
end

end Go.Proofs.Ytcjejcbikgcnbaa

/- slices.Clone and slices.Reverse at tasks; append of a task. -/
namespace Go.Proofs.Ytcjejcbikgcnbaa
open Go.RowKit Go.Shelf

theorem info_task : (Try.prog.info? 41).map (fun i => (i.zero, i.size, i.bytes)) = some (some (.agg #[.string ⟨#[]⟩, .int .i64 0, .int .i64 0, .int .i64 0, .slice none 0 0]), 5, 64) := by kernel_rfl
theorem flat_len (l : List Task) : (l.flatMap Task.cells).length = l.length * 5 := by
  induction l with
  | nil => rfl
  | cons t l ih => rw [List.flatMap_cons, List.length_append, ih]; simp [Task.cells]; omega
theorem flat_one (l : List Task) : ∀ u ∈ l.flatMap Task.cells, u.oneCell' = true := fun u hu => by
  obtain ⟨t, _, ht⟩ := List.mem_flatMap.1 hu
  simp only [Task.cells, List.mem_cons, List.not_mem_nil, or_false] at ht
  rcases ht with rfl | rfl | rfl | rfl | rfl <;> rfl
theorem TasksAt.of_own {w : World} {base B n : Nat} {v : Value} {l : List Task} (h : w.ownsRow base 41 5 v n (l.flatMap Task.cells)) (hs : ∀ t ∈ l, StrsAt w B t.bv t.bef) (hB : B ≤ w.heap.size) (ho : ∀ t ∈ l, t.ok) : TasksAt w w.heap.size v l := by
  have hn : n = l.length := by have := h.1; rw [flat_len] at this; omega
  subst hn
  exact ⟨Flat.of_own h, fun t ht => (hs t ht).mono hB, ho⟩

set_option maxHeartbeats 1000000 in
theorem cloneTasks (v : Value) (l : List Task) (w : World) (hl : TasksAt w w.heap.size v l) (hlen : l.length ≤ 1000000) :
    Calls Try.prog 31 #[v] w fun e w' => ∃ v', e = .returned v' ∧ w'.ownsRow w.heap.size 41 5 v' l.length (l.flatMap Task.cells) ∧ Below w.heap.size w w' := by
  have HL := Lib.hid hl
  obtain ⟨A, c, rfl, hc1, hc2, hcell⟩ := hl.open_
  clear hl
  cases A with
  | none =>
    have hl0 : l = [] := by
      cases l with
      | nil => rfl
      | cons x r => obtain ⟨b, off, e, _⟩ := hcell 0 (by simp); cases e
    subst hl0
    have heq := fun W => Lib.run_eql_slice_nil (P := Try.prog) W 22 41 none 0 c 0 0 Try.underlying22
    clear hcell
    go_enter Try.func31, Try.ntmps31
    go_wp2
    go_ret
    exact ⟨_, rfl, World.ownsRow_nil _ _ _ _, Below.refl _ _⟩
  | some ad =>
    have heq := fun W => Lib.run_eql_slice_nil (P := Try.prog) W 22 41 (some ad) l.length c 0 0 Try.underlying22
    clear hcell
    go_enter Try.func31, Try.ntmps31
    go_wp2_with (at_builtin; refine wpList_appendAll _ rfl (.tmp 5) (.tmp 6) 22 rfl w.heap.size 41 info_task Try.underlying22 rfl (by decide) (.slice (some ⟨w.heap.size, 0, none⟩) 0 0) 0 [] rfl (World.ownsRow_made w #[] 0 (Nat.le_refl _) (Nat.zero_le _) rfl) w.heap.size l.length (.slice (some ad) l.length c) (l.flatMap Task.cells) rfl (HL.out.below ((Below.refl _ _).alloc (Nat.le_refl _) _) (Nat.le_refl _)).1 (flat_len l) (flat_one l) (by unfold maxLen; omega) (by omega) (by simp) ?_; intro v1 w1 hown1 hg1 hat1)
    go_ret
    refine ⟨_, rfl, by simpa using hown1, ?_⟩
    exact ((Below.refl w.heap.size w).alloc (Nat.le_refl _) _).grown hg1 (by simp) (fun k hk => by simp [Value.ownBlock] at hk; omega)

/-! ### slices.Reverse -/
def revRen : Ren := ⟨fun | 35 => 32 | n => n, fun | 0 => 0 | 3 => 3 | 4 => 4 | 22 => 22 | 23 => 41 | n => n, fun n => n⟩
theorem revLays : SlLaysE0.n35 Try.prog revRen := {
  mixed := by kernel_rfl
  f35 := ⟨Try.f32.name, by decide, Try.func32.trans (congrArg some (by kernel_rfl))⟩
  t0 := Try.underlying0
  a0 := Try.isAgg0
  z0 := Try.sizeOf0
  v0 := Try.zeroValue0
  t3 := Try.underlying3
  a3 := Try.isAgg3
  z3 := Try.sizeOf3
  v3 := Try.zeroValue3
  t4 := Try.underlying4
  a4 := Try.isAgg4
  z4 := Try.sizeOf4
  v4 := Try.zeroValue4
  t22 := Try.underlying22
  a22 := Try.isAgg22
  z22 := Try.sizeOf22
  v22 := Try.zeroValue22 }

theorem flatK_get (l : List Task) (j : Nat) (hj : j < l.length * 5) : (l.flatMap Task.cells)[j]? = some ((Go.Sort.flatK Task.cells 5 l.toArray)[j]!) := by
  have h5 : j / 5 < l.length := by omega
  have h := flat_get l (j / 5) (j % 5) h5 (by omega)
  rw [show j / 5 * 5 + j % 5 = j by omega] at h
  rw [h, Go.Sort.get_flatK Task.cells 5 l.toArray j (by simpa using hj)]
  have e : l.toArray[j / 5]! = l[j / 5] := by rw [getElem!_pos _ _ (by simpa using h5)]; simp
  rw [e]
  have hl : j % 5 < l[j / 5].cells.length := by show j % 5 < 5; omega
  rw [List.getElem?_eq_getElem hl, getElem!_pos l[j / 5].cells (j % 5) hl]
theorem grown_putRow {α : Type} [Inhabited α] (enc : α → Value) (w : World) (n blk off : Nat) (d : Array α) : w.grownBy (Go.Sort.putRow enc (Go.Sort.ahead w n) blk off d) (some blk) :=
  ⟨rfl, rfl, rfl, by simp, fun i _ hne => by
    simp only [Go.Sort.putRow, Go.Sort.mapBlock, Go.Sort.heap_ahead, Array.getElem?_modify]
    rw [if_neg (fun e => hne (by rw [e]))]⟩

theorem reverseTasks (v : Value) (l : List Task) (base : Nat) (w : World) (h : w.ownsRow base 41 5 v l.length (l.flatMap Task.cells)) :
    Calls Try.prog 32 #[v] w fun e w' => e = .returned (.tuple #[]) ∧ Flat w' w'.heap.size v l.length (l.reverse.flatMap Task.cells) ∧ w.grownBy w' v.ownBlock := by
  rcases h.2 with ⟨rfl, hnil⟩ | ⟨g, cap, cur, rfl, hb, hg, hnc, hcm, hcs, ht⟩
  · have hl : l.length = 0 := by have := flat_len l; rw [hnil] at this; simp at this; omega
    rw [hl]
    refine (AnyQ.slices_Reverse_empty revLays none 0 w).mono ?_
    rintro e w' ⟨rfl, rfl⟩
    exact ⟨rfl, ⟨none, 0, rfl, Nat.le_refl _, Nat.zero_le _, fun h => absurd h (Nat.lt_irrefl _)⟩, World.grownBy.refl _ _⟩
  · have hlen : l.toArray.size = l.length := by simp
    have hH : Go.Sort.HoldsK Task.cells 5 w g 0 l.toArray := fun j hj => by
      rw [Go.Sort.size_flatK, hlen] at hj
      rw [Nat.zero_add]
      refine ⟨?_, h.frozenAt j⟩
      rw [h.cellAt j (by omega), flatK_get l j hj]
      rfl
    have hc := AnyQ.slices_Reverse revLays 5 Try.isAgg41 Try.sizeOf41 Task.cells (fun _ => rfl) (fun t u hu => flat_one [t] u (by simpa using hu)) g 0 cap l.toArray w hH (by unfold maxLen at hcm; omega)
    rw [hlen] at hc
    refine hc.mono ?_
    rintro e w' ⟨rfl, n, rfl⟩
    have hgl := (Array.getElem?_eq_some_iff.1 hg).1
    refine ⟨rfl, ⟨_, cap, rfl, hnc, hcm, fun _ => ⟨g, 0, rfl, by simpa [Go.Sort.putRowK, Go.Sort.putRow, Go.Sort.mapBlock] using hgl, fun j u hu => ?_⟩⟩, grown_putRow _ _ _ _ _ _⟩
    have hj : j < l.reverse.length * 5 := by have := (List.getElem?_eq_some_iff.1 hu).1; rw [flat_len] at this; exact this
    rw [flatK_get l.reverse j hj] at hu
    have hc := Go.Sort.cell?_putRow id (Go.Sort.ahead w n) g 0 (Go.Sort.flatK Task.cells 5 l.toArray) (Go.Sort.flatK Task.cells 5 l.toArray.reverse) hH (by simp) j (by simpa using hj)
    unfold Go.Sort.putRowK
    rw [hc, List.reverse_toArray]
    exact hu

end Go.Proofs.Ytcjejcbikgcnbaa

/- Two rows of a call's own, of tasks and of numbers, each appended to in one statement whose order is drawn. -/
namespace Go.Proofs.Ytcjejcbikgcnbaa
open Go.RowKit Go.Shelf

/-- Two rows of the call's own. -/
structure Two (W w : World) (v1 v2 : Value) (ts : List Task) (xs : List Int) : Prop where
  o1 : w.ownsRow W.heap.size 41 5 v1 ts.length (ts.flatMap Task.cells)
  o2 : w.ownsRow W.heap.size 3 1 v2 xs.length (xs.map (Value.int .i64))
  bel : Below W.heap.size W w
section
variable {W w : World} {v1 v2 : Value} {ts : List Task} {xs : List Int}
theorem Two.alloc (h : Two W w v1 v2 ts xs) (o : Obj) : Two W (w.alloc o) v1 v2 ts xs := ⟨h.o1.alloc o, h.o2.alloc o, h.bel.alloc h.bel.size o⟩
theorem Two.drew (h : Two W w v1 v2 ts xs) : Two W w.drew v1 v2 ts xs := ⟨h.o1, h.o2, h.bel.drew⟩
theorem Two.drewN (h : Two W w v1 v2 ts xs) (n : Nat) : Two W (w.drewN n) v1 v2 ts xs := ⟨h.o1, h.o2, below_drewN h.bel n⟩
theorem Blk.drew {g : Nat} {t : TypeId} {cs : Array Value} (h : Blk w g t cs) : Blk w.drew g t cs := h
theorem add0 (a j : Nat) : (Addr.mk a 0 none).add j = ⟨a, j, none⟩ := by rw [Addr.add_lit, Nat.zero_add]

/-- A task, just laid in a block of its own, is appended. -/
theorem step_app1 {ops : Array Oper} {o : Oper} {a : Act} {K : Act → World → Prop} {Q : Exit → Act → World → Prop} {E : Prop} (hgd : o.guard = none) (s x : Operand)
    (ho : o.op = .call { callee := .builtin .append, args := #[s, x], argTypes := #[22, 22] }) (T : Two W w v1 v2 ts xs) {t : Task} {a1 : Nat} (N : Blk w a1 41 t.cells.toArray)
    (hs : a.eval s = v1) (hx : a.eval x = .slice (some ⟨a1, 0, none⟩) 1 1) (hlen : ts.length ≤ 100)
    (h : ∀ g cap w', Two W w' (.slice (some ⟨g, 0, none⟩) (ts.length + 1) cap) v2 (ts ++ [t]) xs → (∀ b cs, Blk w b 3 cs → Blk w' b 3 cs) → K (a.put o.dst (.slice (some ⟨g, 0, none⟩) (ts.length + 1) cap)) w') :
    if Region.wanted o (yielded ops a.tmps) = true then Oper.wp Try.prog o a w K Q else E := by
  obtain ⟨i0, hi0, hz0, hz1, hz2⟩ := info_parts info_task
  refine step_append_lies w hgd s x 22 ho W.heap.size 41 i0 _ 5 64 Try.underlying22 hi0 hz0 hz1 hz2 rfl (by decide) v1 ts.length (ts.flatMap Task.cells) hs T.o1 ⟨a1, 0, none⟩ 1 1 t.cells hx rfl
    (fun j u hu => by rw [add0]; exact (N.cell j).trans (by simpa using hu)) (fun u hu => flat_one [t] u (by simpa using hu)) (by omega) (by unfold maxLen; omega) (by omega) T.bel.size _ rfl ?_
  intro g cap w' hown hgrow _ _
  exact h g cap w' ⟨by simpa using hown, T.o2.kept hgrow (own_ne T.o2 T.o1 (by decide)), T.bel.grown hgrow T.bel.size (fun k hk => (T.o1.lt k hk).1)⟩ (fun b cs hb => hb.kept hgrow (hb.ne_own T.o1 (by decide)))
/-- A number, just laid in a block of its own, is appended. -/
theorem step_app2 {ops : Array Oper} {o : Oper} {a : Act} {K : Act → World → Prop} {Q : Exit → Act → World → Prop} {E : Prop} (hgd : o.guard = none) (s x : Operand)
    (ho : o.op = .call { callee := .builtin .append, args := #[s, x], argTypes := #[29, 29] }) (T : Two W w v1 v2 ts xs) {t : Int} {a1 : Nat} (N : Blk w a1 3 #[.int .i64 t])
    (hs : a.eval s = v2) (hx : a.eval x = .slice (some ⟨a1, 0, none⟩) 1 1) (hlen : xs.length ≤ 100)
    (h : ∀ g cap w', Two W w' v1 (.slice (some ⟨g, 0, none⟩) (xs.length + 1) cap) ts (xs ++ [t]) → (∀ b cs, Blk w b 41 cs → Blk w' b 41 cs) → K (a.put o.dst (.slice (some ⟨g, 0, none⟩) (xs.length + 1) cap)) w') :
    if Region.wanted o (yielded ops a.tmps) = true then Oper.wp Try.prog o a w K Q else E := by
  obtain ⟨i0, hi0, hz0, hz1, hz2⟩ := info_parts info_int
  refine step_append_lies w hgd s x 29 ho W.heap.size 3 i0 _ 1 8 Try.underlying29 hi0 hz0 hz1 hz2 rfl (by decide) v2 xs.length (xs.map (Value.int .i64)) hs T.o2 ⟨a1, 0, none⟩ 1 1 [.int .i64 t] hx rfl
    (fun j u hu => by rw [add0]; exact (N.cell j).trans (by simpa using hu)) (fun u hu => by rw [List.mem_singleton.1 hu]; rfl) (by omega) (by unfold maxLen; omega) (by omega) T.bel.size _ rfl ?_
  intro g cap w' hown hgrow _ _
  exact h g cap w' ⟨T.o1.kept hgrow (own_ne T.o1 T.o2 (by decide)), by simpa using hown, T.bel.grown hgrow T.bel.size (fun k hk => (T.o2.lt k hk).1)⟩ (fun b cs hb => hb.kept hgrow (hb.ne_own T.o2 (by decide)))
end

end Go.Proofs.Ytcjejcbikgcnbaa

/- The law ScheduleKeeps: the walk. -/
namespace Go.Proofs.Ytcjejcbikgcnbaa
open Go.RowKit Go.Shelf

/-- The starts of an order, checked. -/
theorem checkList {l : List Task} {c p : Int} {y : List Nat} {v : Value} {A : Option Addr} {cap n : Nat} {w1 : World} (hv : validB l c p = true) (hn : l.any (tooMuch c p) = false) (hP : Placed l y) (hy : y.length = l.length) (hnl : n = l.length) (hl : TasksAt w1 w1.heap.size v l) (hs : IntsAt w1 w1.heap.size (.slice A n cap) (listAll l c p y)) :
    Calls Try.prog 35 #[v, .int .i64 c, .int .i64 p, .slice A n cap] w1 fun e w' => e = .returned (.tuple #[.bool true, .int .i64 0]) ∧ Below w1.heap.size w1 w' := by
  obtain ⟨hR, hc0, -, hp0, -⟩ := valid_right hv
  obtain ⟨h1, h2, h3⟩ := hP.check hR ⟨hc0, hp0⟩ hn hy
  have hst : startsN l (listAll l c p y) = 0 := startsN_ok h2 fun x hx => by have := h3 x hx; omega
  refine (schedCheck v _ l c p _ w1 hl hs (wide_of (M := 80000) (by omega) h3)).mono fun e w' h => ?_
  unfold CheckPost at h
  rw [checkE_yes hv, hst, h1] at h
  exact ⟨h.2, h.1⟩
theorem lengthList {l : List Task} {c p : Int} {y : List Nat} {v : Value} {A : Option Addr} {cap n : Nat} {w1 : World} (hv : validB l c p = true) (hn : l.any (tooMuch c p) = false) (hP : Placed l y) (hy : y.length = l.length) (hl : TasksAt w1 w1.heap.size v l) (hs : IntsAt w1 w1.heap.size (.slice A n cap) (listAll l c p y)) :
    Calls Try.prog 36 #[v, .slice A n cap] w1 fun e w' => e = .returned (.tuple #[.int .i64 (lenTo l (listAll l c p y) l.length), .int .i64 0]) ∧ Below w1.heap.size w1 w' := by
  obtain ⟨hR, hc0, -, hp0, -⟩ := valid_right hv
  obtain ⟨h1, h2, h3⟩ := hP.check hR ⟨hc0, hp0⟩ hn hy
  have hst : startsN l (listAll l c p y) = 0 := startsN_ok h2 fun x hx => by have := h3 x hx; omega
  refine (schedLength v _ l _ w1 hl hs (wide_of (M := 80000) (by omega) h3)).mono fun e w' h => ?_
  obtain ⟨hb, ⟨hno, -⟩ | ⟨-, h⟩⟩ := h
  · rw [(right_iff l).2 hR] at hno; cases hno
  · rw [hst, if_pos rfl] at h
    exact ⟨h, hb⟩
theorem pickT_snoc {l : List Task} {z : List Nat} {i : Nat} (hi : i < l.length) : pickT l (z ++ [i]) = pickT l z ++ [l[i]] := by
  unfold pickT
  rw [List.map_append, List.map_singleton, tk_get hi]
theorem pickS_snoc {s : List Int} {z : List Nat} {i : Nat} : pickS s (z ++ [i]) = pickS s z ++ [atI s i] := by simp [pickS]
theorem pickT_mem {l : List Task} {z : List Nat} (hz : ∀ i ∈ z, i < l.length) : ∀ t ∈ pickT l z, t ∈ l := fun t ht => by
  unfold pickT at ht
  obtain ⟨i, hi, rfl⟩ := List.mem_map.1 ht
  rw [tk_get (hz i hi)]
  exact List.getElem_mem _
/-- The last of an order's beginning, one unit earlier. -/
theorem keeps_last {l : List Task} {c p : Int} {y : List Nat} (hR : RightT l) (hc : 0 ≤ c ∧ 0 ≤ p) (hfit : l.any (tooMuch c p) = false) (hP : Placed l y) {i : Nat} (hi : i < y.length) (h0 : 0 < atI (listAll l c p y) y[i]) :
    checkB (pickT l (y.take (i + 1))) c p (pickS (listAll l c p y) (y.take i) ++ [atI (listAll l c p y) y[i] - 1]) = false ∧ RightT (pickT l (y.take (i + 1))) := by
  have hy : y.take (i + 1) = y.take i ++ [y[i]] := take_snoc y i hi
  have hsp : y = (y.take i ++ [y[i]]) ++ y.drop (i + 1) := by rw [← hy, List.take_append_drop]
  have hPi : Placed l (y.take i ++ [y[i]]) := by rw [← hy]; exact hP.take _
  have hfr : ∀ j ∈ y.take i ++ [y[i]], atI (listAll l c p y) j = atI (listAll l c p (y.take i ++ [y[i]])) j := fun j hj => by
    have := listAll_front (c := c) (p := p) _ (z := y.take i ++ [y[i]]) (w := y.drop (i + 1)) rfl (by rw [← hsp]; exact hP) j hj
    rw [← hsp] at this
    exact this
  have hfr2 : pickS (listAll l c p y) (y.take i) = pickS (listAll l c p (y.take i)) (y.take i) := by
    unfold pickS
    refine List.map_congr_left fun j hj => ?_
    rw [hfr j (List.mem_append_left _ hj)]
    exact listAll_front (c := c) (p := p) _ (z := y.take i) (w := [y[i]]) rfl hPi j hj
  rw [hy, hfr2]
  refine ⟨early_bad hR hc hfit hPi (hfr _ (List.mem_append_right _ (List.mem_singleton.2 rfl))).symm h0, ?_⟩
  have hcl := hPi.closed hR _ (Nat.le_refl _)
  rw [List.take_length] at hcl
  exact (sub_pick hR hPi.nodup hPi.lt hcl).right hR

theorem right_valid {l : List Task} {c p : Int} (hR : RightT l) (hc : 0 ≤ c ∧ c ≤ 1000) (hp : 0 ≤ p ∧ p ≤ 1000) : validB l c p = true := by
  unfold validB betweenB
  rw [(right_iff l).2 hR, decide_eq_true hc, decide_eq_true hp]
  rfl
/-- The last number of a row of the call's own is written. -/
theorem Two.setLast {W w : World} {v1 : Value} {g cap : Nat} {ts : List Task} {xs : List Int} {x t : Int} (h : Two W w v1 (.slice (some ⟨g, 0, none⟩) (xs ++ [x]).length cap) ts (xs ++ [x])) :
    Two W (w.setCell ⟨g, xs.length, none⟩ (.int .i64 t)) v1 (.slice (some ⟨g, 0, none⟩) (xs ++ [t]).length cap) ts (xs ++ [t]) := by
  obtain ⟨h1, h2⟩ := h.o2.stored xs.length (.int .i64 t)
  refine ⟨h.o1.kept h2 (own_ne h.o1 h.o2 (by decide)), ?_, h.bel.grown h2 h.bel.size (fun k hk => (h.o2.lt k hk).1)⟩
  simpa using h1

set_option maxRecDepth 100000 in
set_option maxHeartbeats 8000000 in
theorem lawScheduleKeeps (v u : Value) (l : List Task) (c p : Int) (xs : List Int) (k8 : Int) (w : World) (hl : TasksAt w w.heap.size v l) (hs : IntsAt w w.heap.size u xs) (hw : Wide xs) (hk : 0 ≤ k8 ∧ k8 ≤ 255) :
    Calls Try.prog 14 #[v, .int .i64 c, .int .i64 p, u, .int .u8 k8] w fun e w' => e = .returned (.bool true) ∧ Below w.heap.size w w' := by
  have hA := lawAwake43 w
  have HT : Hid (∀ w1, Below w.heap.size w w1 → TasksAt w1 w1.heap.size v l) := fun w1 hb => (hl.below hb (Nat.le_refl _)).mono hb.size
  have HS : Hid (∀ w1, Below w.heap.size w w1 → IntsAt w1 w1.heap.size u xs) := fun w1 hb => (hs.below hb (Nat.le_refl _)).mono hb.size
  have HW := Lib.hid hw
  have HTl := Lib.hid hl
  obtain ⟨A1, c1, rfl, hB1, hB2, hBc⟩ := hs.open_
  have HXC : Hid (∀ k (hk : k < xs.length), ∃ b off, A1 = some ⟨b, off, none⟩ ∧ b < w.heap.size ∧ ∀ j (hj : j < xs.length), w.cell? ⟨b, off + j, none⟩ = some (.int .i64 xs[j])) := hBc
  have hLong := fun w1 (hb : Below w.heap.size w w1) => lawShort v (.slice (some ⟨w1.heap.size, 0, none⟩) 1 1) l [.slice A1 xs.length c1] (w1.alloc (.cells #[.slice A1 xs.length c1] 29)) (HT.out _ (hb.alloc hb.size _)) (oneRow w1 _ _) (by
    intro u hu
    rw [List.mem_singleton.1 hu]
    exact ⟨A1, xs.length, c1, rfl, hB1, by unfold maxLen at hB2; omega⟩)
  have HLe : Hid (∀ w1, Below w.heap.size w w1 → Calls Try.prog 41 #[v, .int .i64 c, .int .i64 p] w1 (LeastPost l c p w1)) := fun w1 hb => schedLeast v l c p w1 (HT.out w1 hb)
  have hb0 : ∀ (w1 : World) o, Below w.heap.size w w1 → Below w.heap.size w (w1.alloc o) := fun w1 o hb => hb.alloc hb.size o
  obtain ⟨A, cc, rfl, hA1, hA2, hTc⟩ := hl.open_
  have HTC : Hid (∀ k (_ : k < l.length), ∃ b off, A = some ⟨b, off, none⟩ ∧ b < w.heap.size ∧ ∀ j (hj : j < l.length), TaskCells w b (off + j * 5) l[j]) := hTc
  unfold maxLen at hA2 hB2
  obtain ⟨hk0, hk1⟩ := hk
  clear hl hs hw hBc hTc
  cases hlg : shortB l [.slice A1 xs.length c1] with
  | false =>
    rw [hlg] at hLong
    clear hlg
    go_enter Try.func14, Try.ntmps14
    go_wp2_with (first
      | (go_at_call 37; refine hA.mono ?_; rintro e w1 ⟨rfl, hb1⟩)
      | (go_at_call 38; refine (hLong _ hb1).mono ?_; rintro e w2 ⟨rfl, hb2⟩))
    go_ret
    exact ⟨rfl, (hb0 _ _ hb1).trans (hb2.mono (hb0 _ _ hb1).size)⟩
  | true =>
    have hx12 := shortB_len hlg
    rw [hlg] at hLong
    have HLi : Hid (∀ w1, Below w.heap.size w w1 → Calls Try.prog 56 #[.slice A l.length cc, .int .i64 c, .int .i64 p, .slice A1 xs.length c1] w1 (ListWPost l c p xs w1)) := fun w1 hb => schedList _ _ l c p xs w1 (HT.out w1 hb) (HS.out w1 hb) HW.out (by omega)
    clear hlg
    by_cases h6 : 6 < l.length
    · have h6b : decide ((6 : Int) < l.length) = true := by simp; omega
      go_enter Try.func14, Try.ntmps14
      go_wp2_with (first
        | (go_at_call 37; refine hA.mono ?_; rintro e w1 ⟨rfl, hb1⟩)
        | (go_at_call 38; refine (hLong _ hb1).mono ?_; rintro e w2 ⟨rfl, hb2⟩))
      go_ret
      exact ⟨rfl, (hb0 _ _ hb1).trans (hb2.mono (hb0 _ _ hb1).size)⟩
    have h6b : decide ((6 : Int) < l.length) = false := by simp; omega
    go_enter Try.func14, Try.ntmps14
    go_wp2_with (first
      | (go_at_call 37; refine hA.mono ?_; rintro e w1 ⟨rfl, hb1⟩)
      | (go_at_call 38; refine (hLong _ hb1).mono ?_; rintro e w2 ⟨rfl, hb2⟩; have hbx := (hb0 _ (.cells #[.slice A1 xs.length c1] 29) hb1).trans (hb2.mono (hb0 _ (.cells #[.slice A1 xs.length c1] 29) hb1).size); clear hb1 hb2 hA hLong))
    refine (HLi.out _ hbx).mono ?_
    rintro e w3 ⟨hb3, hpost⟩
    have hbx3 := hbx.trans (hb3.mono hbx.size)
    rcases hpost with ⟨hv, rfl⟩ | ⟨hv, hn, rfl⟩ | ⟨hv, hn, ho, rfl⟩ | ⟨hv, hn, ho, S, rfl, hown⟩
    · clear hv
      go_wp2_with fail
      go_ret
      exact ⟨rfl, hbx3⟩
    · clear hv hn
      go_wp2_with fail
      go_ret
      exact ⟨rfl, hbx3⟩
    · clear hv hn
      generalize orderN l xs = on at *
      have hob : (on != 0) = true := bne_iff_ne.2 ho
      clear ho
      go_wp2_with fail
      go_ret
      exact ⟨rfl, hbx3⟩
    obtain ⟨hR, hc0, hc1, hp0, hp1⟩ := valid_right hv
    obtain ⟨e1, e2, e3, hP⟩ := order_placed ho
    have hyl : (natsOf xs).length = l.length := by rw [natsOf_len]; exact e1
    have hi3 : IntsAt w3 w3.heap.size (.slice (some ⟨S, 0, none⟩) l.length l.length) (listAll l c p (natsOf xs)) := RowAt.of_own (own_mono hown (Nat.zero_le _))
    have HI3 : Hid (∀ w1, Below w3.heap.size w3 w1 → IntsAt w1 w1.heap.size (.slice (some ⟨S, 0, none⟩) l.length l.length) (listAll l c p (natsOf xs))) := fun w1 hb => (hi3.below hb (Nat.le_refl _)).mono hb.size
    have HCk : Hid (∀ w1, Below w3.heap.size w3 w1 → Calls Try.prog 35 #[.slice A l.length cc, .int .i64 c, .int .i64 p, .slice (some ⟨S, 0, none⟩) l.length l.length] w1 fun e w' => e = .returned (.tuple #[.bool true, .int .i64 0]) ∧ Below w1.heap.size w1 w') := fun w1 hb => checkList hv hn hP hyl rfl (HT.out w1 (hbx3.trans (hb.mono hbx3.size))) (HI3.out w1 hb)
    have HLn : Hid (∀ w1, Below w3.heap.size w3 w1 → Calls Try.prog 36 #[.slice A l.length cc, .slice (some ⟨S, 0, none⟩) l.length l.length] w1 fun e w' => e = .returned (.tuple #[.int .i64 (lenTo l (listAll l c p (natsOf xs)) l.length), .int .i64 0]) ∧ Below w1.heap.size w1 w') := fun w1 hb => lengthList hv hn hP hyl (HT.out w1 (hbx3.trans (hb.mono hbx3.size))) (HI3.out w1 hb)
    obtain ⟨hck, hlenS, hbdS⟩ := hP.check hR ⟨hc0, hp0⟩ hn hyl
    have hopt := least_opt hR ⟨hc0, hp0⟩ hn hlenS (fun i hi => by rw [atI_get (by omega)]; exact (hbdS _ (List.getElem_mem _)).1) hck
    have HSC : Hid (∀ w1, Below w3.heap.size w3 w1 → ∀ j, j < l.length → w1.cell? ⟨S, j, none⟩ = some (.int .i64 (atI (listAll l c p (natsOf xs)) j))) := fun w1 hb j hj => by
      obtain ⟨A9, c9, e9, -, -, hcc⟩ := (HI3.out w1 hb).open_
      injection e9 with e9 _ _
      obtain ⟨b9, off9, e10, -, hc9⟩ := hcc j (by omega)
      rw [← e9] at e10
      injection e10 with e10
      injection e10 with e11 e12 _
      subst e11 e12
      rw [atI_get (by omega)]
      have := hc9 j (by omega)
      rwa [Nat.zero_add] at this
    have HR := Lib.hid hR
    have Hv := Lib.hid hv
    have Hn := Lib.hid hn
    have HP := Lib.hid hP
    have He1 := Lib.hid e1
    have He2 := Lib.hid e2
    have HBd := Lib.hid hbdS
    have HLenS := Lib.hid hlenS
    have HC0 : Hid (0 ≤ c ∧ c ≤ 1000 ∧ 0 ≤ p ∧ p ≤ 1000) := ⟨hc0, hc1, hp0, hp1⟩
    have HYl := Lib.hid hyl
    have HEnd : Hid (l.length = 0 → lenTo l (listAll l c p (natsOf xs)) l.length = 0) := fun h => by rw [h]; rfl
    have hlb : ((xs.length : Int) != (l.length : Int)) = false := by simp; omega
    have hd1 : decide (lenTo l (listAll l c p (natsOf xs)) l.length < (leastN l c p).1) = false := decide_eq_false (by omega)
    have hl6 : l.length ≤ 6 := by omega
    have hxl6 : xs.length ≤ 6 := by omega
    clear hopt hck hlenS hbdS hyl e1 e2 e3 hP ho hown hR hc0 hc1 hp0 hp1 h6 hi3 hb3 hbx HLi
    generalize lenTo l (listAll l c p (natsOf xs)) l.length = n1 at *
    go_wp2_with fail
    refine (HCk.out _ (Below.refl _ _)).mono ?_
    rintro e w4 ⟨rfl, hb4⟩
    go_wp2_with fail
    refine (HLn.out _ hb4).mono ?_
    rintro e w5 ⟨rfl, hb5⟩
    have hb35 := hb4.trans (hb5.mono hb4.size)
    have hbx5 := hbx3.trans (hb35.mono hbx3.size)
    go_wp2_with fail
    refine (HLe.out _ hbx5).mono ?_
    rintro e w6 ⟨hb6, hpost⟩
    rcases hpost with ⟨hno, -⟩ | ⟨-, hno, -⟩ | ⟨-, -, A6, cap6, rfl, -⟩
    · rw [Hv.out] at hno; cases hno
    · rw [Hn.out] at hno; cases hno
    have hb36 := hb35.trans (hb6.mono hb35.size)
    have hbx6 := hbx3.trans (hb36.mono hbx3.size)
    clear hv hn hb4 hb5 hb6 hb35 hbx5 HCk HLn HLe
    generalize (leastN l c p).2.length = rl at *
    generalize (leastN l c p).1 = rn at *
    by_cases hl0 : l.length = 0
    · have hn0 := HEnd.out hl0
      have d3 : ((l.length : Int) == 0) = true := beq_iff_eq.2 (by omega)
      clear hl0
      subst hn0
      go_wp2_with fail
      go_ret
      exact ⟨rfl, hbx6⟩
    have d3 : ((l.length : Int) == 0) = false := beq_eq_false_iff_ne.2 (by omega)
    have hxp : 0 < xs.length := by have := He1.out; omega
    obtain ⟨i, hi, hrem⟩ : ∃ i : Nat, i < xs.length ∧ k8 % (xs.length : Int) = (i : Int) := ⟨(k8 % (xs.length : Int)).toNat, by have := Int.emod_lt_of_pos k8 (show (0 : Int) < xs.length by omega); omega, by have := Int.emod_nonneg k8 (show (xs.length : Int) ≠ 0 by omega); omega⟩
    have hl1 : (0 : Int) < (xs.length : Int) := by omega
    have hl2 : ¬ (xs.length : Int) = 0 := by omega
    obtain ⟨b1, off1, rfl, hb1l, hxcell⟩ := HXC.out i hi
    have HXc : Hid (∀ w1, Below w.heap.size w w1 → ∀ j (hj : j < xs.length), w1.cell? ⟨b1, off1 + j, none⟩ = some (.int .i64 ((natsOf xs).getD j 0 : Nat)) ∧ (natsOf xs).getD j 0 < l.length) := fun w1 hb j hj => by
      have h0 := out_none He2.out _ (List.getElem_mem hj)
      have e : (natsOf xs).getD j 0 = xs[j].toNat := by rw [List.getD_eq_getElem?_getD, List.getElem?_eq_getElem (by rw [natsOf_len]; exact hj), Option.getD_some, natsOf_get hj]
      rw [e]
      refine ⟨?_, by omega⟩
      rw [show ((xs[j].toNat : Nat) : Int) = xs[j] by omega]
      exact (hb.cell (p := ⟨b1, off1 + j, none⟩) hb1l).trans (hxcell j hj)
    obtain ⟨x6, hjl⟩ := HXc.out w6 hbx6 i hi
    have s6 := HSC.out w6 hb36 _ hjl
    have hyi : (natsOf xs).getD i 0 = (natsOf xs)[i]'(by rw [natsOf_len]; exact hi) := by rw [List.getD_eq_getElem?_getD, List.getElem?_eq_getElem (by rw [natsOf_len]; exact hi)]; rfl
    have hat : 0 ≤ atI (listAll l c p (natsOf xs)) ((natsOf xs).getD i 0) ∧ atI (listAll l c p (natsOf xs)) ((natsOf xs).getD i 0) ≤ 80000 := by
      rw [atI_get (by rw [HLenS.out]; exact hjl)]
      exact HBd.out _ (List.getElem_mem _)
    have HLast : Hid (0 < atI (listAll l c p (natsOf xs)) ((natsOf xs).getD i 0) → checkB (pickT l ((natsOf xs).take (i + 1))) c p (pickS (listAll l c p (natsOf xs)) ((natsOf xs).take i) ++ [atI (listAll l c p (natsOf xs)) ((natsOf xs).getD i 0) - 1]) = false ∧ RightT (pickT l ((natsOf xs).take (i + 1)))) := fun h => by
      rw [hyi] at h ⊢
      exact keeps_last HR.out ⟨HC0.out.1, HC0.out.2.2.1⟩ Hn.out HP.out (by rw [natsOf_len]; exact hi) h
    have j1 : (0 : Int) ≤ (i : Int) := Int.natCast_nonneg _
    have j2 : (i : Int) < (xs.length : Int) := by omega
    have j3 : (0 : Int) ≤ ((natsOf xs).getD i 0 : Nat) := Int.natCast_nonneg _
    have j4 : (((natsOf xs).getD i 0 : Nat) : Int) < (l.length : Int) := by omega
    have Hyi := Lib.hid hyi
    clear hl0 hxcell hyi
    obtain ⟨jj, hjj⟩ : ∃ jj, (natsOf xs).getD i 0 = jj := ⟨_, rfl⟩
    have Hjj := Lib.hid hjj
    rw [hjj] at x6 s6 hat j3 j4 hjl
    clear hjj
    obtain ⟨t0, ht0⟩ : ∃ t0, atI (listAll l c p (natsOf xs)) jj = t0 := ⟨_, rfl⟩
    have Ht0 := Lib.hid ht0
    rw [ht0] at s6 hat
    clear ht0
    by_cases hz : t0 = 0
    · subst hz
      go_wp2_with fail
      go_ret
      exact ⟨rfl, hbx6⟩
    have hzb : (t0 == 0) = false := beq_eq_false_iff_ne.2 hz
    have k1 : IntKind.i64.wrap ((i : Int) + 1) = (i : Int) + 1 := IntWalk.i64_in _ (by omega)
    have k2 : (0 : Int) ≤ (i : Int) + 1 := by omega
    have k3 : (i : Int) + 1 ≤ (xs.length : Int) := by omega
    have k4 : ((i : Int) + 1).toNat = i + 1 := by omega
    have k5 : (i : Int) + 1 ≤ (c1 : Int) := by omega
    have k6 : i + 1 ≤ c1 := by omega
    have k7 : i + 1 ≤ xs.length := by omega
    have htp : 0 < t0 := by omega
    have HStart : Two w6 w6 (.slice none 0 0) (.slice none 0 0) (pickT l ((natsOf xs).take 0)) (pickS (listAll l c p (natsOf xs)) ((natsOf xs).take 0)) := ⟨World.ownsRow_nil _ _ _ _, World.ownsRow_nil _ _ _ _, Below.refl _ _⟩
    have HStart := Lib.hid HStart
    have HNL : Hid ((natsOf xs).length = xs.length) := natsOf_len
    clear hz
    go_wp2_with fail
    clear x6 s6
    rw [hrem]
    clear hrem
    go_loopw [121, 21, 22] (fun ix av bv wr => ∃ m : Nat, m ≤ i + 1 ∧ ix = .int .i64 m ∧ Hid (Two w6 wr av bv (pickT l ((natsOf xs).take m)) (pickS (listAll l c p (natsOf xs)) ((natsOf xs).take m)))) (fun ix _ _ _ => i + 1 - (intOf ix).toNat)
    case atStart => exact ⟨0, Nat.zero_le _, rfl, HStart⟩
    case round =>
      clear HStart
      obtain ⟨m, hm, rfl, HTw⟩ := hrel
      have m0 : (0 : Int) ≤ (m : Int) := Int.natCast_nonneg _
      by_cases hml : m < i + 1
      · obtain ⟨x1, hjm⟩ := HXc.out wr (hbx6.trans (HTw.out.bel.mono hbx6.size)) m (by omega)
        obtain ⟨bt, offt, rfl, hbt, htc⟩ := HTC.out _ hjm
        have HBox : Hid (∀ w', Below w6.heap.size w6 w' → TaskCells w' bt (offt + ((natsOf xs).getD m 0) * 5) l[(natsOf xs).getD m 0] ∧ w'.cell? ⟨S, (natsOf xs).getD m 0, none⟩ = some (.int .i64 (atI (listAll l c p (natsOf xs)) ((natsOf xs).getD m 0)))) := fun w' hb =>
          ⟨(htc _ hjm).below (hbx6.trans (hb.mono hbx6.size)) hbt, HSC.out w' (hb36.trans (hb.mono hb36.size)) _ hjm⟩
        have HNext : Hid (∀ w' a b, Two w6 w' a b (pickT l ((natsOf xs).take m) ++ [l[(natsOf xs).getD m 0]]) (pickS (listAll l c p (natsOf xs)) ((natsOf xs).take m) ++ [atI (listAll l c p (natsOf xs)) ((natsOf xs).getD m 0)]) → Two w6 w' a b (pickT l ((natsOf xs).take (m + 1))) (pickS (listAll l c p (natsOf xs)) ((natsOf xs).take (m + 1)))) := fun w' a b h => by
          have hmn : m < (natsOf xs).length := by rw [HNL.out]; omega
          have e : (natsOf xs).take (m + 1) = (natsOf xs).take m ++ [(natsOf xs).getD m 0] := by rw [take_snoc _ m hmn, List.getD_eq_getElem?_getD, List.getElem?_eq_getElem hmn]; rfl
          rw [e, pickT_snoc hjm, pickS_snoc]
          exact h
        have hlen1 : (pickT l ((natsOf xs).take m)).length ≤ 100 := by unfold pickT; rw [List.length_map, List.length_take]; omega
        have hlen2 : (pickS (listAll l c p (natsOf xs)) ((natsOf xs).take m)).length ≤ 100 := by unfold pickS; rw [List.length_map, List.length_take]; omega
        have T0 := HTw.out
        have j6 : (0 : Int) ≤ ((natsOf xs).getD m 0 : Nat) := Int.natCast_nonneg _
        have j7 : (((natsOf xs).getD m 0 : Nat) : Int) < (l.length : Int) := by omega
        have j8 : (m : Int) < (i : Int) + 1 := by omega
        have m1 : (m : Int) < ((i + 1 : Nat) : Int) := by omega
        clear htc HTw
        generalize pickT l ((natsOf xs).take m) = ts at *
        generalize pickS (listAll l c p (natsOf xs)) ((natsOf xs).take m) = us at *
        generalize atI (listAll l c p (natsOf xs)) ((natsOf xs).getD m 0) = ux at *
        generalize l[(natsOf xs).getD m 0] = t at *
        generalize (natsOf xs).getD m 0 = j at *
        obtain ⟨⟨x2, x3, x4, x5, x6⟩, x7⟩ := HBox.out wr T0.bel
        have hz0 := fun o => HBox.out (wr.alloc o) (T0.alloc o).bel
        have y2 := fun o => (hz0 o).1.1
        have y3 := fun o => (hz0 o).1.2.1
        have y4 := fun o => (hz0 o).1.2.2.1
        have y5 := fun o => (hz0 o).1.2.2.2.1
        have y6 := fun o => (hz0 o).1.2.2.2.2
        have y7 := fun o => (hz0 o).2
        clear hz0
        go_wp2_with fail
        go_region_law (first
          | (refine step_app1 rfl (.tmp 125) (.tmp 130) rfl (by first | exact T2 | exact T2.alloc _ | exact (T0.alloc _).drew | exact ((T0.alloc _).alloc _).drew) (t := t) (by first | exact Blk.new _ _ _ | exact (Blk.new _ _ _).drew | exact ((Blk.new _ _ _).alloc _).drew | exact hk2 _ _ (Blk.new _ _ _).drew | exact hk2 _ _ ((Blk.new _ _ _).alloc _).drew) (by go_simp) (by go_simp) hlen1 ?_; intro g1 cap1 wz1 T1 hk1; obtain ⟨⟨q2, q3, q4, q5, q6⟩, q7⟩ := HBox.out wz1 T1.bel)
          | (refine step_app2 rfl (.tmp 132) (.tmp 137) rfl (by first | exact T1 | exact T1.alloc _ | exact (T0.alloc _).drew | exact ((T0.alloc _).alloc _).drew) (t := ux) (by first | exact Blk.new _ _ _ | exact (Blk.new _ _ _).drew | exact ((Blk.new _ _ _).alloc _).drew | exact hk1 _ _ (Blk.new _ _ _).drew | exact hk1 _ _ ((Blk.new _ _ _).alloc _).drew) (by go_simp) (by go_simp) hlen2 ?_; intro g2 cap2 wz2 T2 hk2; obtain ⟨⟨q2, q3, q4, q5, q6⟩, q7⟩ := HBox.out wz2 T2.bel))
        all_goals
          clear x2 x3 x4 x5 x6 x7 y2 y3 y4 y5 y6 y7 q2 q3 q4 q5 q6 q7 x1
          go_simp
          go_wp2_with fail
          go_roundw
          case rel => exact ⟨m + 1, by omega, by go_num, HNext.out _ _ _ T2⟩
          case measure => simp [intOf]; omega
      · have hme : m = i + 1 := by omega
        subst hme
        have hnl : i < (natsOf xs).length := by rw [HNL.out]; exact hi
        have hLen1 : (pickT l ((natsOf xs).take (i + 1))).length = i + 1 := by unfold pickT; rw [List.length_map, List.length_take]; omega
        have hLen0 : (pickS (listAll l c p (natsOf xs)) ((natsOf xs).take i)).length = i := by unfold pickS; rw [List.length_map, List.length_take]; omega
        have e1 : pickS (listAll l c p (natsOf xs)) ((natsOf xs).take (i + 1)) = pickS (listAll l c p (natsOf xs)) ((natsOf xs).take i) ++ [t0] := by
          rw [take_snoc _ i hnl, pickS_snoc, ← Ht0.out, ← Hjj.out, ← Hyi.out]
        obtain ⟨hLc, hLR⟩ := HLast.out (by rw [Hjj.out, Ht0.out]; omega)
        rw [Hjj.out, Ht0.out] at hLc
        have hTw := HTw.out
        rw [e1] at hTw
        obtain ⟨g1, cap1, hav, -, -⟩ := World.ownsRow.form hTw.o1 (by omega)
        obtain ⟨g2, cap2, hbv, -, hg2⟩ := World.ownsRow.form hTw.o2 (by simp)
        subst hav hbv
        have hcell := hTw.o2.cellAt i (by rw [List.length_append, List.length_singleton]; omega)
        rw [List.getElem?_map, List.getElem?_append_right (by omega), hLen0, Nat.sub_self] at hcell
        simp only [List.getElem?_cons_zero, Option.map_some] at hcell
        have hfz := hTw.o2.frozenAt i
        have hTs := hTw.setLast (t := t0 - 1)
        rw [hLen0] at hTs
        have hbz := hbx6.trans (hTs.bel.mono hbx6.size)
        have hpm : ∀ t ∈ pickT l ((natsOf xs).take (i + 1)), t ∈ l := pickT_mem fun j hj => HP.out.lt j (List.mem_of_mem_take hj)
        have hTl := TasksAt.of_own hTs.o1 (fun t ht => (HT.out _ hbz).2.1 t (hpm t ht)) (Nat.le_refl _) (fun t ht => (HT.out _ hbz).2.2 t (hpm t ht))
        have hTi : IntsAt _ _ _ _ := RowAt.of_own hTs.o2
        have hsb : ∀ x ∈ pickS (listAll l c p (natsOf xs)) ((natsOf xs).take i) ++ [t0 - 1], 0 ≤ x ∧ x ≤ 80000 := fun x hx => by
          rcases List.mem_append.1 hx with hx | hx
          · exact pick_bd HLenS.out (fun j hj => HP.out.lt j (List.mem_of_mem_take hj)) HBd.out x hx
          · rw [List.mem_singleton.1 hx]; omega
        have hCk := schedCheck _ _ _ c p _ _ hTl hTi (wide_of (M := 80000) (by omega) hsb)
        unfold CheckPost at hCk
        rw [checkE_yes (right_valid hLR ⟨HC0.out.1, HC0.out.2.1⟩ ⟨HC0.out.2.2.1, HC0.out.2.2.2⟩), startsN_ok (by rw [hLen1, List.length_append, hLen0]; rfl) (fun x hx => by have := hsb x hx; omega), hLc] at hCk
        simp only [List.length_append, List.length_singleton, hLen0, hLen1] at hCk ⊢
        have HCk2 := Lib.hid hCk
        have Hbz := Lib.hid hbz
        have w1 : IntKind.i64.wrap (t0 - 1) = t0 - 1 := IntWalk.i64_in _ (by omega)
        clear hCk hbz hTs hTl hTi hsb hpm hLc hLR hTw HTw e1 hLen1 hLen0
        go_wp2_with fail
        refine HCk2.out.mono ?_
        rintro e w9 ⟨hb9, rfl⟩
        go_wp2_with fail
        go_ret
        exact ⟨rfl, Hbz.out.trans (hb9.mono Hbz.out.size)⟩

end Go.Proofs.Ytcjejcbikgcnbaa

/- ScheduleKeeps: for every input the law returns true, and its arguments read as they did. -/
namespace Go.Proofs.Ytcjejcbikgcnbaa
open Go.ChangeShapes Go.WideShapes Go.ChangeAt Go.RowKit

theorem scheduleKeeps_u8 {y : Int} (h : (Lit.int .u8 y).wf = true) : 0 ≤ y ∧ y ≤ 255 := by
  simp [Lit.wf, IntKind.min, IntKind.max, IntKind.signed, IntKind.bits] at h
  omega

set_option maxRecDepth 100000 in
theorem scheduleKeeps_lifted (os : Os) (started : os.Started) (H : Type) (enc : TypeId × Value → H) :
    ReturnsInHanded {} Try.checked os 14 .any (Rows.scheduleKeepsSpec.pre6 enc Try.prog Try.f14 Rows.scheduleKeepsRow.domain false) (Rows.scheduleKeepsSpec.post enc Try.prog Try.f14 false true false false) := by
  refine law_lifted started (by kernel_rfl) Try.func14 rfl (by kernel_rfl) ?_ ?_ (ChangeSpec.witness6 (enc := enc) (C := Try.checked) false ⟨#[], #[.slice none 0 0, .int .i64 0, .int .i64 0, .slice none 0 0, .int .u8 0], []⟩ 8 (by kernel_rfl) (by kernel_rfl) (by kernel_rfl) (by kernel_rfl)) ?_
  · rw [Try.params14]
    intro t ht
    simp only [List.mem_cons, List.not_mem_nil, or_false] at ht
    rcases ht with rfl | rfl | rfl | rfl | rfl <;> exact ⟨by kernel_rfl, of_decide_eq_true (by kernel_rfl)⟩
  · intro ds hds
    match ds, hds with
    | [d0, d1, d2, d3, d4], _ => exact ⟨rfl, rfl, rfl⟩
  · intro W base args ds ps hval hA
    rw [Try.params14] at hA hval
    obtain ⟨v0, vs0, d0, ds0, p0, q0, hargs, rfl, rfl, h0, r0⟩ := trodAll_cons hA
    obtain ⟨v1, vs1, d1, ds1, p1, q1, rfl, rfl, rfl, h1, r1⟩ := trodAll_cons r0
    obtain ⟨v2, vs2, d2, ds2, p2, q2, rfl, rfl, rfl, h2, r2⟩ := trodAll_cons r1
    obtain ⟨v3, vs3, d3, ds3, p3, q3, rfl, rfl, rfl, h3, r3⟩ := trodAll_cons r2
    obtain ⟨v4, vs4, d4, ds4, p4, q4, rfl, rfl, rfl, h4, r4⟩ := trodAll_cons r3
    obtain ⟨rfl, rfl, rfl⟩ := trodAll_nil r4
    obtain rfl : args = #[v0, v1, v2, v3, v4] := by cases args; simp_all
    obtain ⟨a0, n0, c0, rfl⟩ := okWide_slice Try.underlying22 (hval 0 22 v0 rfl rfl)
    obtain ⟨fuel0, hf0⟩ := h0
    obtain ⟨x0, hx0⟩ := tasks_of_trod hf0
    obtain ⟨x1, rfl, -, -, wf1⟩ := open_int Try.underlying3 (hval 1 3 v1 rfl rfl) h1
    clear wf1
    obtain ⟨x2, rfl, -, -, wf2⟩ := open_int Try.underlying3 (hval 2 3 v2 rfl rfl) h2
    clear wf2
    obtain ⟨a3, n3, c3, rfl⟩ := okWide_slice Try.underlying29 (hval 3 29 v3 rfl rfl)
    obtain ⟨fuel3, hf3⟩ := h3
    obtain ⟨x3, hx3, hw3⟩ := ints_of_trod hf3
    obtain ⟨x4, rfl, -, -, wf4⟩ := open_int Try.underlying5 (hval 4 5 v4 rfl rfl) h4
    exact lawScheduleKeeps _ _ x0 x1 x2 x3 x4 W hx0 hx3 hw3 (scheduleKeeps_u8 wf4)

theorem scheduleKeeps_holds : Rows.ScheduleKeepsSaid :=
  OpenClaim.holds_of_wide 14 Try.f14 rfl rfl rfl rfl rfl rfl rfl ⟨rfl, rfl, rfl, rfl, rfl⟩ rfl rfl rfl rfl rfl (by kernel_rfl) Try.func14 (by kernel_rfl)
    (of_decide_eq_true (by kernel_rfl)) (by unfold Func.isWrapper; first | (rw [if_pos (by decide +kernel)]; kernel_rfl) | (rw [if_neg (by decide +kernel)]; exact ⟨rfl, rfl⟩))
    (fun os started H enc _ => scheduleKeeps_lifted os started H enc)
#print axioms scheduleKeeps_holds

end Go.Proofs.Ytcjejcbikgcnbaa
