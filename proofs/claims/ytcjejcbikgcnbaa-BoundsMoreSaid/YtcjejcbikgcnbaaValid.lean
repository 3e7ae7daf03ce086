/- schedule.Valid and the reference's Valid. -/
import Derived.Test.YtcjejcbikgcnbaaAcyc
namespace Go.Proofs.Ytcjejcbikgcnbaa
open Go.RowKit Go.Shelf

noncomputable def validB (l : List Task) (c p : Int) : Bool := rightR l && betweenB c 0 1000 && betweenB p 0 1000
theorem valid_00 (l : List Task) : validB l 0 0 = rightR l := by unfold validB betweenB; simp

set_option maxHeartbeats 2000000 in
theorem schedValid (v : Value) (l : List Task) (c p : Int) (w : World) (hl : TasksAt w w.heap.size v l) :
    Calls Try.prog 52 #[v, .int .i64 c, .int .i64 p] w fun e w' => e = .returned (.bool (validB l c p)) ∧ Below w.heap.size w w' := by
  have hr := schedRight v l w hl
  rw [rightW_eq] at hr
  clear hl
  cases hb : rightR l with
  | false =>
    rw [hb] at hr
    have HV : Hid (validB l c p = false) := by unfold Hid validB; rw [hb]; rfl
    clear hb
    go_enter Try.func52, Try.ntmps52
    go_wp2_with (go_at_call 85; refine hr.mono ?_; rintro e w' ⟨rfl, hb'⟩)
    go_ret
    exact ⟨ret_bool HV.out.symm, hb'⟩
  | true =>
    rw [hb] at hr
    by_cases h1 : 0 ≤ c
    rotate_left
    · have HV : Hid (validB l c p = false) := by unfold Hid validB betweenB; simp [h1]
      have h1b : decide (0 ≤ c) = false := by simpa using h1
      clear hb
      go_enter Try.func52, Try.ntmps52
      go_wp2_with (go_at_call 85; refine hr.mono ?_; rintro e w' ⟨rfl, hb'⟩)
      go_ret
      exact ⟨ret_bool HV.out.symm, hb'⟩
    by_cases h2 : c ≤ 1000
    rotate_left
    · have HV : Hid (validB l c p = false) := by unfold Hid validB betweenB; simp [h2]
      have h2b : decide (c ≤ 1000) = false := by simpa using h2
      clear hb
      go_enter Try.func52, Try.ntmps52
      go_wp2_with (go_at_call 85; refine hr.mono ?_; rintro e w' ⟨rfl, hb'⟩)
      go_ret
      exact ⟨ret_bool HV.out.symm, hb'⟩
    by_cases h3 : 0 ≤ p
    rotate_left
    · have HV : Hid (validB l c p = false) := by unfold Hid validB betweenB; simp [h3]
      have h3b : decide (0 ≤ p) = false := by simpa using h3
      clear hb
      go_enter Try.func52, Try.ntmps52
      go_wp2_with (go_at_call 85; refine hr.mono ?_; rintro e w' ⟨rfl, hb'⟩)
      go_ret
      exact ⟨ret_bool HV.out.symm, hb'⟩
    have HV : Hid (validB l c p = decide (p ≤ 1000)) := by unfold Hid validB betweenB; simp [hb, h1, h2, h3]
    clear hb
    go_enter Try.func52, Try.ntmps52
    go_wp2_with (go_at_call 85; refine hr.mono ?_; rintro e w' ⟨rfl, hb'⟩)
    go_ret
    exact ⟨ret_bool HV.out.symm, hb'⟩

set_option maxHeartbeats 2000000 in
theorem refValid (v : Value) (l : List Task) (c p : Int) (w : World) (hl : TasksAt w w.heap.size v l) :
    Calls Try.prog 42 #[v, .int .i64 c, .int .i64 p] w fun e w' => e = .returned (.bool (validB l c p)) ∧ Below w.heap.size w w' := by
  have hr := refRight v l w hl
  clear hl
  cases h1 : betweenB c 0 1000 with
  | false =>
    have HV : Hid (validB l c p = false) := by unfold Hid validB; simp [h1]
    go_enter Try.func42, Try.ntmps42
    go_wp2_with (go_at_call 68; refine (refBetween _ _ _ _).mono ?_; rintro e w' ⟨rfl, rfl⟩)
    go_ret
    exact ⟨ret_bool HV.out.symm, Below.refl _ _⟩
  | true =>
    cases h2 : betweenB p 0 1000 with
    | false =>
      have HV : Hid (validB l c p = false) := by unfold Hid validB; simp [h2]
      go_enter Try.func42, Try.ntmps42
      go_wp2_with (go_at_call 68; refine (refBetween _ _ _ _).mono ?_; rintro e w' ⟨rfl, rfl⟩)
      go_ret
      exact ⟨ret_bool HV.out.symm, Below.refl _ _⟩
    | true =>
      have HV : Hid (validB l c p = rightR l) := by unfold Hid validB; simp [h1, h2]
      generalize rightR l = r at *
      go_enter Try.func42, Try.ntmps42
      go_wp2_with (first | (go_at_call 68; refine (refBetween _ _ _ _).mono ?_; rintro e w' ⟨rfl, rfl⟩) | (go_at_call 19; refine hr.mono ?_; rintro e w' ⟨rfl, hb'⟩))
      go_ret
      exact ⟨ret_bool HV.out.symm, hb'⟩

end Go.Proofs.Ytcjejcbikgcnbaa
