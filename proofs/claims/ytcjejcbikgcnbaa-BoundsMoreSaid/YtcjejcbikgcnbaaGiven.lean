/- bounds.given. -/
import Derived.Test.YtcjejcbikgcnbaaNames44
namespace Go.Proofs.Ytcjejcbikgcnbaa
open Go.RowKit Go.Shelf

theorem enters114 : ∀ args w, (callFunc 114 args).run Try.prog w = .ok (.enter 114 args) w := enters_of Try.func114 (by kernel_rfl) rfl

/-- A task that does not fit. -/
def tooMuch (c p : Int) (t : Task) : Bool := decide (c < t.crew) || decide (p < t.pow)
/-- The error's number. -/
noncomputable def givenN (l : List Task) (c p : Int) : Int := if validB l c p then (if l.any (tooMuch c p) then 22 else 0) else 1

set_option maxHeartbeats 1000000 in
theorem givenClosure (t : Task) (c p : Int) (D : Nat) (w : World) (hD : D + 1 < w.heap.size) (hc : w.cell? ⟨D, 0, none⟩ = some (.int .i64 c)) (hp : w.cell? ⟨D + 1, 0, none⟩ = some (.int .i64 p)) :
    Calls Try.prog 114 #[t.val, .pointer (some ⟨D, 0, none⟩), .pointer (some ⟨D + 1, 0, none⟩)] w fun e w' => e = .returned (.bool (tooMuch c p t)) ∧ Below w.heap.size w w' := by
  have hD0 : D < w.heap.size := by omega
  obtain ⟨name, len, crew, pow, ba, bc, bef⟩ := t
  unfold Task.val
  simp only
  by_cases h : c < crew
  · have HV : Hid (tooMuch c p ⟨name, len, crew, pow, ba, bc, bef⟩ = true) := by unfold Hid tooMuch; simp [h]
    go_enter Try.func114, Try.ntmps114
    go_wp2
    go_ret
    exact ⟨ret_bool HV.out.symm, (Below.refl _ _).alloc (Nat.le_refl _) _⟩
  · have HV : Hid (tooMuch c p ⟨name, len, crew, pow, ba, bc, bef⟩ = decide (p < pow)) := by unfold Hid tooMuch; simp [h]
    have hb : decide (c < crew) = false := by simpa using h
    go_enter Try.func114, Try.ntmps114
    go_wp2
    go_ret
    exact ⟨ret_bool HV.out.symm, (Below.refl _ _).alloc (Nat.le_refl _) _⟩

set_option maxHeartbeats 1000000 in
theorem boundsGiven (v : Value) (l : List Task) (c p : Int) (w : World) (hl : TasksAt w w.heap.size v l) :
    Calls Try.prog 72 #[v, .int .i64 c, .int .i64 p] w fun e w' => e = .returned (.int .i64 (givenN l c p)) ∧ Below w.heap.size w w' := by
  have hb0 : ∀ o o', Below w.heap.size w ((w.alloc o).alloc o') := fun o o' => ((Below.refl _ _).alloc (Nat.le_refl _) _).alloc (by simp) _
  have hV := fun o o' => schedValid v l c p ((w.alloc o).alloc o') ((hl.below (hb0 o o') (Nat.le_refl _)).mono (by simp; omega))
  have HL := Lib.hid hl
  clear hl
  cases hv : validB l c p with
  | false =>
    have HG : Hid (givenN l c p = 1) := by unfold Hid givenN; rw [hv]; rfl
    rw [hv] at hV
    clear hv
    go_enter Try.func72, Try.ntmps72
    go_wp2_with (go_at_call 52; refine (hV _ _).mono ?_; rintro e w1 ⟨rfl, hb1⟩)
    go_ret
    exact ⟨by rw [HG.out]; rfl, (hb0 _ _).trans (hb1.mono (by simp; omega))⟩
  | true =>
    have HG : Hid (givenN l c p = if l.any (tooMuch c p) then 22 else 0) := by unfold Hid givenN; rw [hv]; rfl
    rw [hv] at hV
    clear hv
    have HC : Hid (∀ w1, Below ((w.alloc (.cells #[.int .i64 c] 3)).alloc (.cells #[.int .i64 p] 3)).heap.size ((w.alloc (.cells #[.int .i64 c] 3)).alloc (.cells #[.int .i64 p] 3)) w1 →
        Calls Try.prog 49 #[v, .func (.func 114) #[] #[.pointer (some ⟨w.heap.size, 0, none⟩), .pointer (some ⟨w.heap.size + 1, 0, none⟩)]] w1 fun e w' => e = .returned (.bool (l.any (tooMuch c p))) ∧ Below w1.heap.size w1 w') := fun w1 hb1 => by
      have hsz := hb1.size
      simp only [World.size_alloc] at hsz
      have ht1 := (HL.out.below ((hb0 (.cells #[.int .i64 c] 3) (.cells #[.int .i64 p] 3)).trans (hb1.mono (by simp; omega))) (Nat.le_refl _)).mono (show w.heap.size ≤ w1.heap.size by omega)
      have hc1 := hb1.cell (p := ⟨w.heap.size, 0, none⟩) (by simp; omega)
      have hp1 := hb1.cell (p := ⟨w.heap.size + 1, 0, none⟩) (by simp)
      refine containsFuncTask v l 114 #[.pointer (some ⟨w.heap.size, 0, none⟩), .pointer (some ⟨w.heap.size + 1, 0, none⟩)] (tooMuch c p) enters114 w1 ht1 ?_
      intro t ht w' hb'
      have hsz' := hb'.size
      refine givenClosure t c p w.heap.size w' (by omega) ?_ ?_
      · rw [hb'.cell (by simp; omega), hc1]
        simp
      · rw [hb'.cell (by simp; omega), hp1]
        simp
    generalize hA : l.any (tooMuch c p) = A at *
    clear hA
    cases A
    all_goals
      go_enter Try.func72, Try.ntmps72
      go_wp2_with (first | (go_at_call 52; refine (hV _ _).mono ?_; rintro e w1 ⟨rfl, hb1⟩) | (go_at_call 49; refine (HC.out _ (by assumption)).mono ?_; rintro e w2 ⟨rfl, hb2⟩))
      go_ret
      refine ⟨by rw [HG.out]; rfl, ?_⟩
      have hsz := hb1.size
      simp only [World.size_alloc] at hsz
      exact ((hb0 _ _).trans (hb1.mono (by simp; omega))).trans (hb2.mono (by omega))

end Go.Proofs.Ytcjejcbikgcnbaa
