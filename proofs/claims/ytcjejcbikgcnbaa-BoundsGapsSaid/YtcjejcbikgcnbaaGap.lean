/- bounds.Gap and bounds.Proves. -/
import Derived.Test.YtcjejcbikgcnbaaBestN
import Derived.Test.YtcjejcbikgcnbaaCheck
namespace Go.Proofs.Ytcjejcbikgcnbaa
open Go.RowKit Go.Shelf

/-- The error's number of Gap. -/
noncomputable def gapE (l : List Task) (c p : Int) (s : List Int) : Int := if givenN l c p = 0 then (if checkE l c p s = 0 then (if checkB l c p s then 0 else 13) else checkE l c p s) else givenN l c p
noncomputable def gapN (l : List Task) (c p : Int) (s : List Int) : Int := if gapE l c p s = 0 then lenTo l s l.length - bestN l c p else 0
theorem given_valid {l : List Task} {c p : Int} (h : givenN l c p = 0) : validB l c p = true := by
  cases hv : validB l c p with
  | true => rfl
  | false => unfold givenN at h; rw [hv] at h; simp at h

set_option maxRecDepth 100000 in
set_option maxHeartbeats 4000000 in
theorem boundsGap (v u : Value) (l : List Task) (c p : Int) (s : List Int) (w : World) (hl : TasksAt w w.heap.size v l) (hs : IntsAt w w.heap.size u s) (hw : Wide s) :
    Calls Try.prog 33 #[v, .int .i64 c, .int .i64 p, u] w fun e w' => e = .returned (.tuple #[.int .i64 (gapN l c p s), .int .i64 (gapE l c p s)]) ∧ Below w.heap.size w w' := by
  have HT : Hid (∀ w1, Below w.heap.size w w1 → TasksAt w1 w1.heap.size v l) := fun w1 hb => (hl.below hb (Nat.le_refl _)).mono hb.size
  have HS : Hid (∀ w1, Below w.heap.size w w1 → IntsAt w1 w1.heap.size u s) := fun w1 hb => (hs.below hb (Nat.le_refl _)).mono hb.size
  have hC := fun w1 hb => schedCheck v u l c p s w1 (HT.out w1 hb) (HS.out w1 hb) hw
  unfold CheckPost at hC
  by_cases hg : givenN l c p = 0
  rotate_left
  · have hB := bestNo v l c p w hl hg
    have HE : Hid (gapE l c p s = givenN l c p) := by unfold Hid gapE; rw [if_neg hg]
    have HN : Hid (gapN l c p s = 0) := by unfold Hid gapN; rw [HE.out, if_neg hg]
    generalize givenN l c p = x at *
    have hb : (x != 0) = true := by simpa using hg
    clear hg hl hs hC
    go_enter Try.func33, Try.ntmps33
    go_wp2_with fail
    refine hB.mono ?_
    rintro e w1 ⟨rfl, hb1⟩
    go_wp2_with fail
    refine bodyPost_ret (results_tmp2 rfl _ _ _) (by rfl) ?_
    exact ⟨by rw [HE.out, HN.out]; rfl, hb1⟩
  have hB := bestYes v l c p w hl hg
  by_cases hce : checkE l c p s = 0
  rotate_left
  · have HE : Hid (gapE l c p s = checkE l c p s) := by unfold Hid gapE; rw [if_pos hg, if_neg hce]
    have HN : Hid (gapN l c p s = 0) := by unfold Hid gapN; rw [HE.out, if_neg hce]
    simp only [decide_eq_false hce, Bool.false_and] at hC
    generalize checkE l c p s = x at *
    have hb : (x != 0) = true := by simpa using hce
    clear hg hl hs hce
    go_enter Try.func33, Try.ntmps33
    go_wp2_with fail
    refine hB.mono ?_
    rintro e w1 ⟨rfl, -, hb1⟩
    go_wp2_with fail
    refine (hC _ hb1).mono ?_
    rintro e w2 ⟨hb2, rfl⟩
    go_wp2_with fail
    refine bodyPost_ret (results_tmp2 rfl _ _ _) (by rfl) ?_
    exact ⟨by rw [HE.out, HN.out]; rfl, hb1.trans (hb2.mono hb1.size)⟩
  simp only [hce, decide_true, Bool.true_and] at hC
  cases hcb : checkB l c p s with
  | false =>
    have HE : Hid (gapE l c p s = 13) := by unfold Hid gapE; rw [if_pos hg, if_pos hce, hcb]; rfl
    have HN : Hid (gapN l c p s = 0) := by unfold Hid gapN; rw [HE.out]; rfl
    simp only [hcb] at hC
    clear hg hl hs hce hcb
    go_enter Try.func33, Try.ntmps33
    go_wp2_with fail
    refine hB.mono ?_
    rintro e w1 ⟨rfl, -, hb1⟩
    go_wp2_with fail
    refine (hC _ hb1).mono ?_
    rintro e w2 ⟨hb2, rfl⟩
    go_wp2_with fail
    refine bodyPost_ret (results_tmp2 rfl _ _ _) (by rfl) ?_
    exact ⟨by rw [HE.out, HN.out]; rfl, hb1.trans (hb2.mono hb1.size)⟩
  | true =>
    have HE : Hid (gapE l c p s = 0) := by unfold Hid gapE; rw [if_pos hg, if_pos hce, hcb]; rfl
    have HN : Hid (gapN l c p s = lenTo l s l.length - bestN l c p) := by unfold Hid gapN; rw [HE.out]; rfl
    have hR := (givenN_zero hg).1
    have hst : startsN l s = 0 := by rw [checkE_yes (given_valid hg)] at hce; exact hce
    obtain ⟨hlen, hbd⟩ := startsN_zero hst
    have hlt := lenTo_bd hR hlen hbd l.length (Nat.le_refl _)
    have hrr := (right_iff l).2 hR
    have hL : ∀ w1, Below w.heap.size w w1 → Calls Try.prog 36 #[v, u] w1 fun e w' => e = .returned (.tuple #[.int .i64 (lenTo l s l.length), .int .i64 0]) ∧ Below w1.heap.size w1 w' := fun w1 hb => (schedLength v u l s w1 (HT.out w1 hb) (HS.out w1 hb) hw).mono fun e w' h => by
      obtain ⟨hb, ⟨hno, _⟩ | ⟨_, rfl⟩⟩ := h
      · rw [hrr] at hno; cases hno
      · rw [hst, if_pos rfl]
        exact ⟨rfl, hb⟩
    simp only [hcb] at hC
    clear hg hl hs hce hcb hst hR hrr hbd hlen
    generalize lenTo l s l.length = m at *
    go_enter Try.func33, Try.ntmps33
    go_wp2_with fail
    refine hB.mono ?_
    rintro e w1 ⟨rfl, hbb, hb1⟩
    generalize bestN l c p = b at *
    go_wp2_with fail
    refine (hC _ hb1).mono ?_
    rintro e w2 ⟨hb2, rfl⟩
    have hb12 := hb1.trans (hb2.mono hb1.size)
    go_wp2_with fail
    refine (hL _ hb12).mono ?_
    rintro e w3 ⟨rfl, hb3⟩
    go_wp2_with fail
    refine bodyPost_ret (results_tmp2 rfl _ _ _) (by rfl) ?_
    exact ⟨by rw [HE.out, HN.out]; rfl, hb12.trans (hb3.mono hb12.size)⟩

/-- The error's number of Proves. -/
noncomputable def provE (l : List Task) (c p n : Int) : Int := if givenN l c p = 0 then (if n < 0 ∨ 1000000 < n then 2 else 0) else givenN l c p
noncomputable def provB (l : List Task) (c p n : Int) : Bool := decide (provE l c p n = 0) && decide (n ≤ bestN l c p)

set_option maxRecDepth 100000 in
set_option maxHeartbeats 4000000 in
theorem boundsProves (v : Value) (l : List Task) (c p n : Int) (w : World) (hl : TasksAt w w.heap.size v l) :
    Calls Try.prog 34 #[v, .int .i64 c, .int .i64 p, .int .i64 n] w fun e w' => e = .returned (.tuple #[.bool (provB l c p n), .int .i64 (provE l c p n)]) ∧ Below w.heap.size w w' := by
  by_cases hg : givenN l c p = 0
  rotate_left
  · have hB := bestNo v l c p w hl hg
    have HE : Hid (provE l c p n = givenN l c p) := by unfold Hid provE; rw [if_neg hg]
    have HN : Hid (provB l c p n = false) := by unfold Hid provB; rw [HE.out, decide_eq_false hg]; rfl
    generalize givenN l c p = x at *
    have hb : (x != 0) = true := by simpa using hg
    clear hg hl
    go_enter Try.func34, Try.ntmps34
    go_wp2_with fail
    refine hB.mono ?_
    rintro e w1 ⟨rfl, hb1⟩
    go_wp2_with fail
    refine bodyPost_ret (results_tmp2 rfl _ _ _) (by rfl) ?_
    exact ⟨by rw [HE.out, HN.out]; rfl, hb1⟩
  have hB := bestYes v l c p w hl hg
  by_cases h1 : n < 0
  · have HE : Hid (provE l c p n = 2) := by unfold Hid provE; rw [if_pos hg, if_pos (.inl h1)]
    have HN : Hid (provB l c p n = false) := by unfold Hid provB; rw [HE.out]; rfl
    clear hg hl
    go_enter Try.func34, Try.ntmps34
    go_wp2_with fail
    refine hB.mono ?_
    rintro e w1 ⟨rfl, -, hb1⟩
    go_wp2_with fail
    refine bodyPost_ret (results_tmp2 rfl _ _ _) (by rfl) ?_
    exact ⟨by rw [HE.out, HN.out]; rfl, hb1⟩
  · have h1b : decide (n < 0) = false := by simpa using h1
    by_cases h2 : 1000000 < n
    · have HE : Hid (provE l c p n = 2) := by unfold Hid provE; rw [if_pos hg, if_pos (.inr h2)]
      have HN : Hid (provB l c p n = false) := by unfold Hid provB; rw [HE.out]; rfl
      clear hg hl
      go_enter Try.func34, Try.ntmps34
      go_wp2_with fail
      refine hB.mono ?_
      rintro e w1 ⟨rfl, -, hb1⟩
      go_wp2_with fail
      refine bodyPost_ret (results_tmp2 rfl _ _ _) (by rfl) ?_
      exact ⟨by rw [HE.out, HN.out]; rfl, hb1⟩
    · have h2b : decide (1000000 < n) = false := by simpa using h2
      have HE : Hid (provE l c p n = 0) := by unfold Hid provE; rw [if_pos hg, if_neg (by omega)]
      have HN : Hid (provB l c p n = decide (n ≤ bestN l c p)) := by unfold Hid provB; rw [HE.out]; simp
      clear hg hl
      go_enter Try.func34, Try.ntmps34
      go_wp2_with fail
      refine hB.mono ?_
      rintro e w1 ⟨rfl, -, hb1⟩
      generalize bestN l c p = b at *
      go_wp2_with fail
      refine bodyPost_ret (results_tmp2 rfl _ _ _) (by rfl) ?_
      exact ⟨by rw [HE.out, HN.out]; rfl, hb1⟩

end Go.Proofs.Ytcjejcbikgcnbaa
