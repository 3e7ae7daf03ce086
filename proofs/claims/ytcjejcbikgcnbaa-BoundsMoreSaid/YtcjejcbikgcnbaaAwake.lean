/- The law's awake. -/
import Derived.Test.YtcjejcbikgcnbaaExRight
namespace Go.Proofs.Ytcjejcbikgcnbaa
open Go.RowKit Go.Shelf

theorem exPath (v : Value) (g : Nat) (w : World) (hl : TasksAt w w.heap.size v (exTasks g)) :
    Calls Try.prog 18 #[v] w fun e w' => ∃ v2, e = .returned (.tuple #[.int .i64 9, v2, .int .i64 0]) ∧ StrsAt w' w'.heap.size v2 [exA, exC] ∧ Below w.heap.size w w' :=
  (boundsPath v _ w hl).mono fun e w' h => by
    obtain ⟨hb, ⟨hno, _⟩ | ⟨_, L, y, v2, hc, rfl, hown⟩⟩ := h
    · rw [(right_iff _).2 (ex_right g)] at hno; cases hno
    · obtain ⟨rfl, rfl⟩ := hc.uniq (ex_covers g)
      exact ⟨v2, rfl, RowAt.of_own (l := [exA, exC]) hown, hb⟩
theorem exWork (v : Value) (g : Nat) (w : World) (hl : TasksAt w w.heap.size v (exTasks g)) :
    Calls Try.prog 23 #[v, .int .i64 3, .int .i64 0] w fun e w' => e = .returned (.tuple #[.int .i64 7, .int .i64 0]) ∧ Below w.heap.size w w' :=
  (boundsWork v _ 3 0 w hl).mono fun e w' h => by
    unfold WorkPost at h
    rw [ex_given, if_pos rfl, ex_work] at h
    exact h
theorem exClique (v : Value) (g : Nat) (w : World) (hl : TasksAt w w.heap.size v (exTasks g)) :
    Calls Try.prog 24 #[v, .int .i64 3, .int .i64 0] w fun e w' => ∃ v2, e = .returned (.tuple #[.int .i64 9, v2, .int .i64 0]) ∧ StrsAt w' w'.heap.size v2 [exA, exC] ∧ Below w.heap.size w w' :=
  (boundsClique v _ 3 0 w hl).mono fun e w' h => by
    obtain ⟨hb, ⟨hno, _⟩ | ⟨_, L, s, v2, hc, rfl, hown⟩⟩ := h
    · exact absurd (ex_given g) hno
    · obtain ⟨rfl, rfl⟩ := hc.uniq (ex_heavy g)
      have e : nmsAt (exTasks g) (memb 5 (exTasks g).length) = [exA, exC] := by simp [memb, nmsAt, exTasks, names, List.range_succ, Nat.testBit]
      rw [e] at hown
      exact ⟨v2, rfl, RowAt.of_own hown, hb⟩
theorem exBest (v : Value) (g : Nat) (w : World) (hl : TasksAt w w.heap.size v (exTasks g)) :
    Calls Try.prog 25 #[v, .int .i64 3, .int .i64 0] w fun e w' => e = .returned (.tuple #[.int .i64 9, .int .i64 0]) ∧ Below w.heap.size w w' :=
  (boundsBest v _ 3 0 w hl).mono fun e w' h => by
    obtain ⟨hb, ⟨hno, _⟩ | ⟨_, L, K, y, s, hc, hh, rfl⟩⟩ := h
    · exact absurd (ex_given g) hno
    · obtain ⟨rfl, rfl⟩ := hc.uniq (ex_covers g)
      obtain ⟨rfl, rfl⟩ := hh.uniq (ex_heavy g)
      rw [ex_work]
      exact ⟨rfl, hb⟩

theorem lit2 (w : World) : StrsAt (w.alloc (.cells #[.string ⟨#[97]⟩, .string ⟨#[99]⟩] 9)) (w.heap.size + 1) (.slice (some ⟨w.heap.size, 0, none⟩) 2 2) [exA, exC] :=
  ⟨_, _, rfl, Nat.le_refl _, by unfold maxLen; omega, fun _ => ⟨_, 0, rfl, by omega, fun j u hu => by
    rw [Nat.zero_add, World.cell?_alloc_new, List.getElem?_toArray]
    exact hu⟩⟩
theorem eqAC (v : Value) (w : World) (hv : StrsAt w w.heap.size v [exA, exC]) :
    Calls Try.prog 21 #[v, .slice (some ⟨w.heap.size, 0, none⟩) 2 2] (w.alloc (.cells #[.string ⟨#[97]⟩, .string ⟨#[99]⟩] 9)) fun e w' => e = .returned (.bool true) ∧ Below w.heap.size w w' := by
  have hb : Below w.heap.size w (w.alloc (.cells #[.string ⟨#[97]⟩, .string ⟨#[99]⟩] 9)) := (Below.refl _ _).alloc (Nat.le_refl _) _
  refine (equalStr _ _ [exA, exC] [exA, exC] (w.heap.size + 1) _ ((hv.below hb (Nat.le_refl _)).mono (by omega)) (lit2 w)).mono ?_
  rintro e w' ⟨rfl, n, rfl⟩
  exact ⟨ret_bool (by simp), below_drewN hb n⟩

set_option maxRecDepth 100000 in
set_option maxHeartbeats 4000000 in
theorem lawAwake (w : World) : Calls Try.prog 16 #[] w fun e w' => e = .returned (.bool true) ∧ Below w.heap.size w w' := by
  go_enter Try.func16, Try.ntmps16
  go_wp2_with fail
  refine (lawExample _).mono ?_
  rintro e w1 ⟨v1, rfl, ht1, hb1⟩
  have hP := exPath _ _ _ ht1
  clear ht1
  go_wp2_with fail
  refine hP.mono ?_
  rintro e w2 ⟨v2, rfl, hs2, hb2⟩
  have hb := hb1.trans (hb2.mono hb1.size)
  clear hb1 hb2 hP
  go_wp2_with fail
  refine (lawExample _).mono ?_
  rintro e w3 ⟨v3, rfl, ht3, hb3⟩
  have hP := exWork _ _ _ ht3
  clear ht3
  go_wp2_with fail
  refine hP.mono ?_
  rintro e w4 ⟨rfl, hb4⟩
  have hbx := hb3.trans (hb4.mono hb3.size)
  clear hb3 hb4 hP
  have hs2 := (hs2.below hbx (Nat.le_refl _)).mono hbx.size
  have hb := hb.trans (hbx.mono hb.size)
  clear hbx
  go_wp2_with fail
  refine (lawExample _).mono ?_
  rintro e w5 ⟨v5, rfl, ht5, hb5⟩
  have hP := exClique _ _ _ ht5
  clear ht5
  go_wp2_with fail
  refine hP.mono ?_
  rintro e w6 ⟨v6, rfl, hs6, hb6⟩
  have hbx := hb5.trans (hb6.mono hb5.size)
  clear hb5 hb6 hP
  have hs2 := (hs2.below hbx (Nat.le_refl _)).mono hbx.size
  have hb := hb.trans (hbx.mono hb.size)
  clear hbx
  go_wp2_with fail
  refine (lawExample _).mono ?_
  rintro e w7 ⟨v7, rfl, ht7, hb7⟩
  have hP := exBest _ _ _ ht7
  clear ht7
  go_wp2_with fail
  refine hP.mono ?_
  rintro e w8 ⟨rfl, hb8⟩
  have hbx := hb7.trans (hb8.mono hb7.size)
  clear hb7 hb8 hP
  have hs2 := (hs2.below hbx (Nat.le_refl _)).mono hbx.size
  have hs6 := (hs6.below hbx (Nat.le_refl _)).mono hbx.size
  have hb := hb.trans (hbx.mono hb.size)
  clear hbx
  have hE := eqAC _ _ hs2
  go_wp2_with fail
  refine hE.mono ?_
  rintro e w9 ⟨rfl, hbx⟩
  have hs6 := (hs6.below hbx (Nat.le_refl _)).mono hbx.size
  have hb := hb.trans (hbx.mono hb.size)
  clear hbx hE
  have hE := eqAC _ _ hs6
  go_wp2_with fail
  refine hE.mono ?_
  rintro e w10 ⟨rfl, hbx⟩
  have hb := hb.trans (hbx.mono hb.size)
  clear hbx hE
  go_wp2_with fail
  go_ret
  exact ⟨rfl, hb⟩

end Go.Proofs.Ytcjejcbikgcnbaa
