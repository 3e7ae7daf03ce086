/- The law BoundsGaps: the walk. -/
import Derived.Test.YtcjejcbikgcnbaaGap
import Derived.Test.YtcjejcbikgcnbaaLawPath
namespace Go.Proofs.Ytcjejcbikgcnbaa
open Go.RowKit Go.Shelf

set_option maxRecDepth 100000 in
set_option maxHeartbeats 8000000 in
theorem lawBoundsGaps (v u : Value) (l : List Task) (c p n : Int) (s : List Int) (w : World) (hl : TasksAt w w.heap.size v l) (hs : IntsAt w w.heap.size u s) (hw : Wide s) :
    Calls Try.prog 6 #[v, .int .i64 c, .int .i64 p, u, .int .i64 n] w fun e w' => e = .returned (.bool true) ∧ Below w.heap.size w w' := by
  have hA := lawAwake w
  have HT : Hid (∀ w1, Below w.heap.size w w1 → TasksAt w1 w1.heap.size v l) := fun w1 hb => (hl.below hb (Nat.le_refl _)).mono hb.size
  have HS : Hid (∀ w1, Below w.heap.size w w1 → IntsAt w1 w1.heap.size u s) := fun w1 hb => (hs.below hb (Nat.le_refl _)).mono hb.size
  have hLong := fun w1 hb => lawLong v l w1 (HT.out w1 hb)
  have hls : ∃ A' cc', u = .slice A' s.length cc' ∧ s.length ≤ 9223372036854775807 := by
    obtain ⟨A', cc', rfl, h1, h2, -⟩ := hs.open_
    unfold maxLen at h2
    exact ⟨A', cc', rfl, by omega⟩
  obtain ⟨A', cc', rfl, hsl⟩ := hls
  clear hl hs
  cases hlg : longL l with
  | true =>
    rw [hlg] at hLong
    clear hlg
    go_enter Try.func6, Try.ntmps6
    go_wp2_with (first
      | (go_at_call 16; refine hA.mono ?_; rintro e w1 ⟨rfl, hb1⟩)
      | (go_at_call 17; refine (hLong _ hb1).mono ?_; rintro e w2 ⟨rfl, hb2⟩))
    go_ret
    exact ⟨rfl, hb1.trans (hb2.mono hb1.size)⟩
  | false =>
    rw [hlg] at hLong
    clear hlg
    by_cases h12 : 12 < s.length
    · have hb12 : decide ((12 : Int) < s.length) = true := by simp; omega
      go_enter Try.func6, Try.ntmps6
      go_wp2_with (first
        | (go_at_call 16; refine hA.mono ?_; rintro e w1 ⟨rfl, hb1⟩)
        | (go_at_call 17; refine (hLong _ hb1).mono ?_; rintro e w2 ⟨rfl, hb2⟩))
      go_ret
      exact ⟨rfl, hb1.trans (hb2.mono hb1.size)⟩
    have hb12 : decide ((12 : Int) < s.length) = false := by simp; omega
    have hG := fun w1 hb => boundsGap v _ l c p s w1 (HT.out w1 hb) (HS.out w1 hb) hw
    have hP := fun w1 hb => boundsProves v l c p n w1 (HT.out w1 hb)
    have hGv := fun w1 hb => refGiven v l c p w1 (HT.out w1 hb)
    have hC := fun w1 hb => schedCheck v _ l c p s w1 (HT.out w1 hb) (HS.out w1 hb) hw
    have hL := fun w1 hb => schedLength v _ l s w1 (HT.out w1 hb) (HS.out w1 hb) hw
    have hB := fun w1 hb hg => refBestN v l c p w1 hg (HT.out w1 hb)
    unfold CheckPost at hC
    unfold LengthPost at hL
    clear hw
    go_enter Try.func6, Try.ntmps6
    go_wp2_with (first
      | (go_at_call 16; refine hA.mono ?_; rintro e w1 ⟨rfl, hb1⟩)
      | (go_at_call 17; refine (hLong _ hb1).mono ?_; rintro e w2 ⟨rfl, hb2⟩))
    have hb := hb1.trans (hb2.mono hb1.size)
    clear hb1 hb2 hA hLong hb12 h12
    by_cases hg : givenN l c p = 0
    rotate_left
    · have eG : gapE l c p s = givenN l c p := by unfold gapE; rw [if_neg hg]
      have eN : gapN l c p s = 0 := by unfold gapN; rw [eG, if_neg hg]
      have eP : provE l c p n = givenN l c p := by unfold provE; rw [if_neg hg]
      have eQ : provB l c p n = false := by unfold provB; rw [eP, decide_eq_false hg]; rfl
      simp only [eG, eN] at hG
      simp only [eP, eQ] at hP
      have Hg := Lib.hid hg
      clear hg eG eN eP eQ hC hL hB
      generalize givenN l c p = x at *
      have hx0 : (x == x) = true := by simp
      have hx1 : (x != 0) = true := by simpa using Hg.out
      refine (hG _ hb).mono ?_
      rintro e w3 ⟨rfl, hb3⟩
      have hb := hb.trans (hb3.mono hb.size)
      clear hb3 hG
      go_wp2_with fail
      refine (hP _ hb).mono ?_
      rintro e w4 ⟨rfl, hb4⟩
      have hb := hb.trans (hb4.mono hb.size)
      clear hb4 hP
      go_wp2_with fail
      refine (hGv _ hb).mono ?_
      rintro e w5 ⟨rfl, hb5⟩
      have hb := hb.trans (hb5.mono hb.size)
      clear hb5 hGv
      go_wp2_with fail
      go_ret
      exact ⟨rfl, hb⟩
    have hR := (givenN_zero hg).1
    have hv := given_valid hg
    have hrr := (right_iff l).2 hR
    have hce : checkE l c p s = startsN l s := checkE_yes hv
    have hB' := fun w1 hb => hB w1 hb hg
    simp only [hg] at hGv
    have hCC : ∀ w1, Below w.heap.size w w1 → Calls Try.prog 35 #[v, .int .i64 c, .int .i64 p, .slice A' s.length cc'] w1 fun e w' => e = .returned (.tuple #[.bool (decide (checkE l c p s = 0) && checkB l c p s), .int .i64 (checkE l c p s)]) ∧ Below w1.heap.size w1 w' := fun w1 hb => (hC w1 hb).mono fun e w' h => ⟨h.2, h.1⟩
    have hLL : startsN l s = 0 → ∀ w1, Below w.heap.size w w1 → Calls Try.prog 36 #[v, .slice A' s.length cc'] w1 fun e w' => e = .returned (.tuple #[.int .i64 (lenTo l s l.length), .int .i64 0]) ∧ Below w1.heap.size w1 w' := fun hst w1 hb => (hL w1 hb).mono fun e w' h => by
      obtain ⟨h1, ⟨hno, _⟩ | ⟨_, rfl⟩⟩ := h
      · rw [hrr] at hno; cases hno
      · rw [hst, if_pos rfl]
        exact ⟨rfl, h1⟩
    -- what Proves says
    have hPr : (n < 0 ∨ 1000000 < n) ∧ provE l c p n = 2 ∧ provB l c p n = false ∨ ¬ (n < 0) ∧ ¬ (1000000 < n) ∧ provE l c p n = 0 ∧ provB l c p n = decide (n ≤ bestN l c p) := by
      by_cases hn : n < 0 ∨ 1000000 < n
      · have e : provE l c p n = 2 := by unfold provE; rw [if_pos hg, if_pos hn]
        exact .inl ⟨hn, e, by unfold provB; rw [e]; rfl⟩
      · have e : provE l c p n = 0 := by unfold provE; rw [if_pos hg, if_neg hn]
        exact .inr ⟨fun h => hn (.inl h), fun h => hn (.inr h), e, by unfold provB; rw [e]; simp⟩
    -- what Gap says
    have hGp : checkE l c p s ≠ 0 ∧ gapE l c p s = checkE l c p s ∧ gapN l c p s = 0 ∧ (decide (checkE l c p s = 0) && checkB l c p s) = false ∨
        checkE l c p s = 0 ∧ gapE l c p s = 13 ∧ gapN l c p s = 0 ∧ (decide (checkE l c p s = 0) && checkB l c p s) = false ∨
        checkE l c p s = 0 ∧ gapE l c p s = 0 ∧ gapN l c p s = lenTo l s l.length - bestN l c p ∧ (decide (checkE l c p s = 0) && checkB l c p s) = true ∧ 0 ≤ lenTo l s l.length ∧ lenTo l s l.length ≤ 1010000 ∧ startsN l s = 0 := by
      by_cases h0 : checkE l c p s = 0
      · right
        cases hcb : checkB l c p s with
        | false =>
          have e : gapE l c p s = 13 := by unfold gapE; rw [if_pos hg, if_pos h0, hcb]; rfl
          exact .inl ⟨h0, e, by unfold gapN; rw [e]; rfl, by simp⟩
        | true =>
          have e : gapE l c p s = 0 := by unfold gapE; rw [if_pos hg, if_pos h0, hcb]; rfl
          have hst : startsN l s = 0 := by rw [← hce]; exact h0
          obtain ⟨hlen, hbd⟩ := startsN_zero hst
          have hlt := lenTo_bd hR hlen hbd l.length (Nat.le_refl _)
          exact .inr ⟨h0, e, by unfold gapN; rw [e]; rfl, by simp [h0], hlt.1, hlt.2, hst⟩
      · left
        have e : gapE l c p s = checkE l c p s := by unfold gapE; rw [if_pos hg, if_neg h0]
        exact ⟨h0, e, by unfold gapN; rw [e, if_neg h0], by simp [h0]⟩
    clear hce hrr hv hR hg hB hC hL
    generalize (decide (checkE l c p s = 0) && checkB l c p s) = kB at *
    generalize checkE l c p s = cE at *
    generalize gapE l c p s = gE at *
    generalize gapN l c p s = gN at *
    generalize provE l c p n = pE at *
    generalize provB l c p n = pB at *
    generalize lenTo l s l.length = m at *
    generalize bestN l c p = b at *
    generalize startsN l s = st at *
    rcases hPr with ⟨hn | hn, rfl, rfl⟩ | ⟨hn1, hn2, rfl, rfl⟩
    all_goals rcases hGp with ⟨hc0, rfl, rfl, rfl⟩ | ⟨rfl, rfl, rfl, rfl⟩ | ⟨rfl, rfl, rfl, rfl, hm1, hm2, hst⟩
    all_goals
      try have hc1 : (cE != 0) = true := by simpa using hc0
      try have hc2 : (cE == cE) = true := by simp
      try have hL3 := hLL hst
      clear hLL
      refine (hG _ hb).mono ?_
      rintro e w3 ⟨rfl, h3⟩
      have hb3 := hb.trans (h3.mono hb.size)
      clear h3 hG
      go_wp2_with fail
      refine (hP _ hb3).mono ?_
      rintro e w4 ⟨rfl, h4⟩
      have hb4 := hb3.trans (h4.mono hb3.size)
      clear h4 hP
      go_wp2_with fail
      refine (hGv _ hb4).mono ?_
      rintro e w5 ⟨rfl, h5⟩
      have hb5 := hb4.trans (h5.mono hb4.size)
      clear h5 hGv
      go_wp2_with fail
      refine (hB' _ hb5).mono ?_
      rintro e w6 ⟨rfl, hbb, h6⟩
      have hb6 := hb5.trans (h6.mono hb5.size)
      clear h6 hB'
      go_wp2_with fail
      refine (hCC _ hb6).mono ?_
      rintro e w7 ⟨rfl, h7⟩
      have hb7 := hb6.trans (h7.mono hb6.size)
      clear h7 hCC
      go_wp2_with (go_at_call 36; refine (hL3 _ hb7).mono ?_; rintro e w8 ⟨rfl, h8⟩; have hb8 := hb7.trans (h8.mono hb7.size))
      go_ret
      first
        | exact ⟨rfl, hb7⟩
        | exact ⟨rfl, hb8⟩
        | exact ⟨ret_bool (by simp), hb8⟩
        | exact ⟨ret_bool (by simp), hb7⟩

end Go.Proofs.Ytcjejcbikgcnbaa
