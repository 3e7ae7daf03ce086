/- The law's right. -/
import Derived.Test.YtcjejcbikgcnbaaLong
import Derived.Test.YtcjejcbikgcnbaaRefGiven
namespace Go.Proofs.Ytcjejcbikgcnbaa
open Go.RowKit Go.Shelf

/-- Tasks and limits are right, and small. -/
noncomputable def smallB (l : List Task) (c p : Int) : Bool := !longL l && decide (l.length ≤ 6) && decide (givenN l c p = 0)
theorem smallB_yes {l : List Task} {c p : Int} (h : smallB l c p = true) : l.length ≤ 6 ∧ givenN l c p = 0 := by
  unfold smallB at h
  simp only [Bool.and_eq_true, decide_eq_true_eq] at h
  exact ⟨h.1.2, h.2⟩

set_option maxHeartbeats 2000000 in
theorem lawRight (v : Value) (l : List Task) (c p : Int) (w : World) (hl : TasksAt w w.heap.size v l) :
    Calls Try.prog 30 #[v, .int .i64 c, .int .i64 p] w fun e w' => e = .returned (.bool (smallB l c p)) ∧ Below w.heap.size w w' := by
  have hLong := lawLong v l w hl
  have hG : ∀ w1, Below w.heap.size w w1 → Calls Try.prog 26 #[v, .int .i64 c, .int .i64 p] w1 fun e w' => e = .returned (.int .i64 (givenN l c p)) ∧ Below w1.heap.size w1 w' := fun w1 hb => refGiven v l c p w1 ((hl.below hb (Nat.le_refl _)).mono hb.size)
  obtain ⟨A, cc, rfl, h1, h2, -⟩ := hl.open_
  unfold maxLen at h2
  clear hl
  cases hlg : longL l with
  | true =>
    have HV : Hid (smallB l c p = false) := by unfold Hid smallB; rw [hlg]; rfl
    rw [hlg] at hLong
    clear hlg hG
    go_enter Try.func30, Try.ntmps30
    go_wp2_with (go_at_call 17; refine hLong.mono ?_; rintro e w1 ⟨rfl, hb1⟩)
    go_ret
    exact ⟨ret_bool HV.out.symm, hb1⟩
  | false =>
    rw [hlg] at hLong
    by_cases h6 : l.length ≤ 6
    · have hb6 : decide ((l.length : Int) ≤ 6) = true := by simp; omega
      have HV : Hid (smallB l c p = decide (givenN l c p = 0)) := by unfold Hid smallB; rw [hlg, decide_eq_true h6]; rfl
      clear hlg
      generalize givenN l c p = g at *
      go_enter Try.func30, Try.ntmps30
      go_wp2_with (first | (go_at_call 17; refine hLong.mono ?_; rintro e w1 ⟨rfl, hb1⟩) | (go_at_call 26; refine (hG _ hb1).mono ?_; rintro e w2 ⟨rfl, hb2⟩))
      go_ret
      exact ⟨ret_bool (by rw [HV.out]; rfl), hb1.trans (hb2.mono hb1.size)⟩
    · have hb6 : decide ((l.length : Int) ≤ 6) = false := by simp; omega
      have HV : Hid (smallB l c p = false) := by unfold Hid smallB; rw [decide_eq_false h6]; simp
      clear hlg hG
      go_enter Try.func30, Try.ntmps30
      go_wp2_with (go_at_call 17; refine hLong.mono ?_; rintro e w1 ⟨rfl, hb1⟩)
      go_ret
      exact ⟨ret_bool HV.out.symm, hb1⟩

end Go.Proofs.Ytcjejcbikgcnbaa
