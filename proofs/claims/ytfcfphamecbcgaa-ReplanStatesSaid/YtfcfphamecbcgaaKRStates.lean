/- For every input the law returns true, and its arguments read as they did: LawStates, RowRStates. -/
import Derived.Test.YtfcfphamecbcgaaG17
import Derived.Test.YtfcfphamecbcgaaG19
import Derived.Test.YtfcfphamecbcgaaG7

/- The law ReplanStates: the walk. -/
namespace Go.Proofs.Ytfcfphamecbcgaa
open Go.RowKit Go.Shelf

set_option maxRecDepth 100000 in
set_option maxHeartbeats 8000000 in
theorem lawReplanStates (v u : Value) (l : List Task) (s : List Int) (a : Int) (w : World) (hl : TasksAt w w.heap.size v l) (hs : IntsAt w w.heap.size u s) (hw : Wide s) :
    Calls Try.prog 3 #[v, u, .int .i64 a] w fun e w' => e = .returned (.bool true) ∧ Below w.heap.size w w' := by
  have hA := lawAwake45 w
  have HT : Hid (∀ w1, Below w.heap.size w w1 → TasksAt w1 w1.heap.size v l) := fun w1 hb => (hl.below hb (Nat.le_refl _)).mono hb.size
  have HS : Hid (∀ w1, Below w.heap.size w w1 → IntsAt w1 w1.heap.size u s) := fun w1 hb => (hs.below hb (Nat.le_refl _)).mono hb.size
  have hLong := fun w1 hb => lawLarge v l w1 (HT.out w1 hb)
  have HSt : Hid (∀ w1, Below w.heap.size w w1 → Calls Try.prog 11 #[v, u, .int .i64 a] w1 (StateTop l s a w1)) := fun w1 hb => rpStateTop v u l s a w1 (HT.out w1 hb) (HS.out w1 hb) hw
  have HGi : Hid (∀ w1, Below w.heap.size w w1 → Calls Try.prog 12 #[v, u, .int .i64 a] w1 fun e w' => e = .returned (.int .i64 (givenR l s a)) ∧ Below w1.heap.size w1 w') := fun w1 hb => refGiven45 v u l s a w1 (HT.out w1 hb) (HS.out w1 hb) hw
  have HRs : Hid (givenR l s a = 0 → ∀ w1, Below w.heap.size w w1 → Calls Try.prog 14 #[v, u, .int .i64 a] w1 (StatePost l s a w1)) := fun hg w1 hb => by
    obtain ⟨hR, hst, ha0, ha1, -⟩ := givenR_zero hg
    obtain ⟨hlen, hbd⟩ := startsN_zero hst
    exact refState v u l s a w1 hR (HT.out w1 hb) (HS.out w1 hb) hlen hbd (by omega)
  obtain ⟨A, cc, rfl, hA1, hA2, -⟩ := hl.open_
  obtain ⟨A1, c1, rfl, hB1, hB2, -⟩ := hs.open_
  unfold maxLen at hA2 hB2
  clear hl hs hw
  cases hlg : largeB l with
  | true =>
    rw [hlg] at hLong
    clear hlg
    go_enter Try.func3, Try.ntmps3
    go_wp2_with (first
      | (go_at_call 9; refine hA.mono ?_; rintro e w1 ⟨rfl, hb1⟩)
      | (go_at_call 10; refine (hLong _ hb1).mono ?_; rintro e w2 ⟨rfl, hb2⟩))
    go_ret
    exact ⟨rfl, hb1.trans (hb2.mono hb1.size)⟩
  | false =>
    rw [hlg] at hLong
    clear hlg
    by_cases h20 : 20 < s.length
    · have h20b : decide ((20 : Int) < s.length) = true := by simp; omega
      go_enter Try.func3, Try.ntmps3
      go_wp2_with (first
        | (go_at_call 9; refine hA.mono ?_; rintro e w1 ⟨rfl, hb1⟩)
        | (go_at_call 10; refine (hLong _ hb1).mono ?_; rintro e w2 ⟨rfl, hb2⟩))
      go_ret
      exact ⟨rfl, hb1.trans (hb2.mono hb1.size)⟩
    have h20b : decide ((20 : Int) < s.length) = false := by simp; omega
    clear h20
    go_enter Try.func3, Try.ntmps3
    go_wp2_with (first
      | (go_at_call 9; refine hA.mono ?_; rintro e w1 ⟨rfl, hb1⟩)
      | (go_at_call 10; refine (hLong _ hb1).mono ?_; rintro e w2 ⟨rfl, hb2⟩; have hbx := hb1.trans (hb2.mono hb1.size); clear hb1 hb2 hA hLong))
    refine (HSt.out _ hbx).mono ?_
    rintro e w3 ⟨hb3, hpost⟩
    have hbx3 := hbx.trans (hb3.mono hbx.size)
    have hGi := HGi.out _ hbx3
    rcases hpost with ⟨hg, rfl⟩ | ⟨hg, va, ms, rfl, hT, hN⟩
    · generalize givenR l s a = x at *
      have hxb : (x != 0) = true := bne_iff_ne.2 hg
      have hxe : (x == x) = true := beq_self_eq_true x
      clear hg HRs
      go_wp2_with (go_at_call 12; refine hGi.mono ?_; rintro e w4 ⟨rfl, hb4⟩)
      go_ret
      exact ⟨rfl, hbx3.trans (hb4.mono hbx3.size)⟩
    · have HRs2 := Lib.hid (HRs.out hg)
      rw [hg] at hGi
      have HT3 := Lib.hid hT
      have HN3 := Lib.hid hN
      obtain ⟨A3, c3, rfl, -, -, -⟩ := hT.open_
      clear hg HRs hT hN
      go_wp2_with (go_at_call 12; refine hGi.mono ?_; rintro e w4 ⟨rfl, hb4⟩)
      have hbx4 := hbx3.trans (hb4.mono hbx3.size)
      refine (HRs2.out _ hbx4).mono ?_
      rintro e w5 ⟨hb5, vb, mr, rfl, hT5, hN5⟩
      have hb35 := hb4.trans (hb5.mono hb4.size)
      have hbx5 := hbx4.trans (hb5.mono hbx4.size)
      have hSm := refSame _ _ ms mr w5 ((HT3.out.below hb35 (Nat.le_refl _)).mono hb35.size) hT5 (HN3.out.trans hN5.symm)
      obtain ⟨A5, c5, rfl, -, -, -⟩ := hT5.open_
      clear hT5 hN5 hGi hb4 hb5 hb35
      go_wp2_with fail
      refine hSm.mono ?_
      rintro e w6 ⟨rfl, hb6⟩
      go_wp2_with fail
      go_ret
      exact ⟨rfl, hbx5.trans (hb6.mono hbx5.size)⟩

end Go.Proofs.Ytfcfphamecbcgaa

/- ReplanStates: for every input the law returns true, and its arguments read as they did. -/
namespace Go.Proofs.Ytfcfphamecbcgaa
open Go.ChangeShapes Go.WideShapes Go.ChangeAt Go.RowKit

set_option maxRecDepth 100000 in
theorem replanStates_lifted (os : Os) (started : os.Started) (H : Type) (enc : TypeId × Value → H) :
    ReturnsInHanded {} Try.checked os 3 .any (Rows.replanStatesSpec.pre6 enc Try.prog Try.f3 Rows.replanStatesRow.domain false) (Rows.replanStatesSpec.post enc Try.prog Try.f3 false true false false) := by
  refine law_lifted started (by kernel_rfl) Try.func3 rfl (by kernel_rfl) ?_ ?_ (ChangeSpec.witness6 (enc := enc) (C := Try.checked) false ⟨#[], #[.slice none 0 0, .slice none 0 0, .int .i64 0], []⟩ 8 (by kernel_rfl) (by kernel_rfl) (by kernel_rfl) (by kernel_rfl)) ?_
  · rw [Try.params3]
    intro t ht
    simp only [List.mem_cons, List.not_mem_nil, or_false] at ht
    rcases ht with rfl | rfl | rfl <;> exact ⟨by kernel_rfl, of_decide_eq_true (by kernel_rfl)⟩
  · intro ds hds
    match ds, hds with
    | [d0, d1, d2], _ => exact ⟨rfl, rfl, rfl⟩
  · intro W base args ds ps hval hA
    rw [Try.params3] at hA hval
    obtain ⟨v0, vs0, d0, ds0, p0, q0, hargs, rfl, rfl, h0, r0⟩ := trodAll_cons hA
    obtain ⟨v1, vs1, d1, ds1, p1, q1, rfl, rfl, rfl, h1, r1⟩ := trodAll_cons r0
    obtain ⟨v2, vs2, d2, ds2, p2, q2, rfl, rfl, rfl, h2, r2⟩ := trodAll_cons r1
    obtain ⟨rfl, rfl, rfl⟩ := trodAll_nil r2
    obtain rfl : args = #[v0, v1, v2] := by cases args; simp_all
    obtain ⟨a0, n0, c0, rfl⟩ := okWide_slice Try.underlying22 (hval 0 22 v0 rfl rfl)
    obtain ⟨fuel0, hf0⟩ := h0
    obtain ⟨x0, hx0⟩ := tasks_of_trod hf0
    obtain ⟨a1, n1, c1, rfl⟩ := okWide_slice Try.underlying23 (hval 1 23 v1 rfl rfl)
    obtain ⟨fuel1, hf1⟩ := h1
    obtain ⟨x1, hx1, hw1⟩ := ints_of_trod hf1
    obtain ⟨x2, rfl, -, -, wf2⟩ := open_int Try.underlying3 (hval 2 3 v2 rfl rfl) h2
    clear wf2
    exact lawReplanStates _ _ x0 x1 x2 W hx0 hx1 hw1

theorem replanStates_holds : Rows.ReplanStatesSaid :=
  OpenClaim.holds_of_wide 3 Try.f3 rfl rfl rfl rfl rfl rfl rfl ⟨rfl, rfl, rfl, rfl, rfl⟩ rfl rfl rfl rfl rfl (by kernel_rfl) Try.func3 (by kernel_rfl)
    (of_decide_eq_true (by kernel_rfl)) (by unfold Func.isWrapper; first | (rw [if_pos (by decide +kernel)]; kernel_rfl) | (rw [if_neg (by decide +kernel)]; exact ⟨rfl, rfl⟩))
    (fun os started H enc _ => replanStates_lifted os started H enc)
#print axioms replanStates_holds

end Go.Proofs.Ytfcfphamecbcgaa
