/- For every input the law returns true, and its arguments read as they did: LawLeast, RowLeast. -/
import Derived.Test.YtcjejcbikgcnbaaG7

/- The law ScheduleLeast: the walk. -/
namespace Go.Proofs.Ytcjejcbikgcnbaa
open Go.RowKit Go.Shelf

theorem noRows (w : World) : RowAt (id : Value → Value) w w.heap.size (.slice none 0 0) [] := ⟨none, 0, rfl, Nat.le_refl _, Nat.zero_le _, fun h => absurd h (by simp)⟩
theorem valid_not {l : List Task} {c p : Int} (h : rightR l = false) : validB l c p = false := by unfold validB; rw [h]; rfl

set_option maxRecDepth 100000 in
set_option maxHeartbeats 8000000 in
theorem lawScheduleLeast (v : Value) (l : List Task) (c p : Int) (w : World) (hl : TasksAt w w.heap.size v l) :
    Calls Try.prog 7 #[v, .int .i64 c, .int .i64 p] w fun e w' => e = .returned (.bool true) ∧ Below w.heap.size w w' := by
  have hA := lawAwake43 w
  have HT : Hid (∀ w1, Below w.heap.size w w1 → TasksAt w1 w1.heap.size v l) := fun w1 hb => (hl.below hb (Nat.le_refl _)).mono hb.size
  have hLong := fun w1 hb => lawShort v (.slice none 0 0) l [] w1 (HT.out w1 hb) (noRows w1) (by simp)
  have HCr : Hid (∀ w1, Below w.heap.size w w1 → Calls Try.prog 39 #[v] w1 (CritPost l w1)) := fun w1 hb => schedCritical v l w1 (HT.out w1 hb)
  have HRi : Hid (∀ w1, Below w.heap.size w w1 → Calls Try.prog 19 #[v] w1 fun e w' => e = .returned (.bool (rightR l)) ∧ Below w1.heap.size w1 w') := fun w1 hb => refRight v l w1 (HT.out w1 hb)
  have HLe : Hid (∀ w1, Below w.heap.size w w1 → Calls Try.prog 41 #[v, .int .i64 c, .int .i64 p] w1 (LeastPost l c p w1)) := fun w1 hb => schedLeast v l c p w1 (HT.out w1 hb)
  have HVa : Hid (∀ w1, Below w.heap.size w w1 → Calls Try.prog 42 #[v, .int .i64 c, .int .i64 p] w1 fun e w' => e = .returned (.bool (validB l c p)) ∧ Below w1.heap.size w1 w') := fun w1 hb => refValid v l c p w1 (HT.out w1 hb)
  have HNe : Hid (∀ w1, Below w.heap.size w w1 → Calls Try.prog 43 #[v, .int .i64 c, .int .i64 p] w1 fun e w' => e = .returned (.bool (l.any (tooMuch c p))) ∧ w1 = w') := fun w1 hb => refNeeded v l c p w1.heap.size w1 (HT.out w1 hb)
  obtain ⟨A, cc, rfl, hA1, hA2, -⟩ := hl.open_
  unfold maxLen at hA2
  clear hl
  cases hlg : shortB l [] with
  | false =>
    rw [hlg] at hLong
    clear hlg
    go_enter Try.func7, Try.ntmps7
    go_wp2_with (first
      | (go_at_call 37; refine hA.mono ?_; rintro e w1 ⟨rfl, hb1⟩)
      | (go_at_call 38; refine (hLong _ hb1).mono ?_; rintro e w2 ⟨rfl, hb2⟩))
    go_ret
    exact ⟨rfl, hb1.trans (hb2.mono hb1.size)⟩
  | true =>
    rw [hlg] at hLong
    clear hlg
    go_enter Try.func7, Try.ntmps7
    go_wp2_with (first
      | (go_at_call 37; refine hA.mono ?_; rintro e w1 ⟨rfl, hb1⟩)
      | (go_at_call 38; refine (hLong _ hb1).mono ?_; rintro e w2 ⟨rfl, hb2⟩))
    have hb := hb1.trans (hb2.mono hb1.size)
    clear hb1 hb2 hA hLong
    refine (HCr.out _ hb).mono ?_
    rintro e w3 ⟨hb3, hpost⟩
    have hbx := hb.trans (hb3.mono hb.size)
    have hRi := HRi.out _ hbx
    cases hr : rightR l with
    | false =>
      rcases hpost with ⟨_, rfl⟩ | ⟨hno, _⟩
      rotate_left
      · rw [hr] at hno; cases hno
      have hv : validB l c p = false := valid_not hr
      have HV := Lib.hid hv
      rw [hr] at hRi
      clear hr hb3 hb hv
      by_cases h6 : 6 < l.length
      · by_cases h8 : l.length ≤ 8
        · have h6b : decide ((6 : Int) < l.length) = true := by simp; omega
          have h8b : decide ((l.length : Int) ≤ 8) = true := by simp; omega
          go_wp2_with (go_at_call 19; refine hRi.mono ?_; rintro e w4 ⟨rfl, hb4⟩)
          go_ret
          exact ⟨rfl, hbx.trans (hb4.mono hbx.size)⟩
        · have h6b : decide ((6 : Int) < l.length) = true := by simp; omega
          have h8b : decide ((l.length : Int) ≤ 8) = false := by simp; omega
          go_wp2_with (go_at_call 19; refine hRi.mono ?_; rintro e w4 ⟨rfl, hb4⟩)
          have hbx := hbx.trans (hb4.mono hbx.size)
          clear hb4 hRi
          refine (HLe.out _ hbx).mono ?_
          rintro e w5 ⟨hb5, ⟨_, rfl⟩ | ⟨hno, _⟩ | ⟨hno, _⟩⟩
          rotate_left
          · rw [HV.out] at hno; cases hno
          · rw [HV.out] at hno; cases hno
          have hbx := hbx.trans (hb5.mono hbx.size)
          have hVa := HVa.out _ hbx
          rw [HV.out] at hVa
          go_wp2_with (go_at_call 42; refine hVa.mono ?_; rintro e w6 ⟨rfl, hb6⟩)
          go_ret
          exact ⟨rfl, hbx.trans (hb6.mono hbx.size)⟩
      · have h6b : decide ((6 : Int) < l.length) = false := by simp; omega
        go_wp2_with (go_at_call 19; refine hRi.mono ?_; rintro e w4 ⟨rfl, hb4⟩)
        have hbx := hbx.trans (hb4.mono hbx.size)
        clear hb4 hRi
        refine (HLe.out _ hbx).mono ?_
        rintro e w5 ⟨hb5, ⟨_, rfl⟩ | ⟨hno, _⟩ | ⟨hno, _⟩⟩
        rotate_left
        · rw [HV.out] at hno; cases hno
        · rw [HV.out] at hno; cases hno
        have hbx := hbx.trans (hb5.mono hbx.size)
        have hVa := HVa.out _ hbx
        rw [HV.out] at hVa
        go_wp2_with (go_at_call 42; refine hVa.mono ?_; rintro e w6 ⟨rfl, hb6⟩)
        go_ret
        exact ⟨rfl, hbx.trans (hb6.mono hbx.size)⟩
    | true =>
      rcases hpost with ⟨hno, _⟩ | ⟨_, A3, cap3, rfl, hown⟩
      · rw [hr] at hno; cases hno
      have hRT := (right_iff l).1 hr
      have h8 := hRT.len
      have HRT := Lib.hid hRT
      have hs3 : StrsAt w3 w3.heap.size (.slice A3 (critL l l.length).length cap3) (critL l l.length) := RowAt.of_own hown
      have HS3 := Lib.hid hs3
      rw [hr] at hRi
      clear hr hb3 hb hown hs3 hRT
      go_wp2_with (go_at_call 19; refine hRi.mono ?_; rintro e w4 ⟨rfl, hb4⟩)
      have HS3 := Lib.hid ((HS3.out.below hb4 (Nat.le_refl _)).mono hb4.size)
      have hbx := hbx.trans (hb4.mono hbx.size)
      clear hb4 hRi
      refine (refCritical _ l w4 HRT.out (HT.out _ hbx)).mono ?_
      rintro e w5 ⟨hb5, A5, cap5, rfl, hown5⟩
      have hbx := hbx.trans (hb5.mono hbx.size)
      have hE := equalStr _ _ _ _ w5.heap.size w5 ((HS3.out.below hb5 (Nat.le_refl _)).mono hb5.size) (RowAt.of_own hown5)
      rw [decide_eq_true rfl] at hE
      clear HS3 hb5 hown5
      generalize critL l l.length = cl at *
      go_wp2_with fail
      refine hE.mono ?_
      rintro e w6 ⟨rfl, q, rfl⟩
      have hbx : Below w.heap.size w (w5.drewN q) := below_drewN hbx q
      clear hE
      by_cases h6 : 6 < l.length
      · have h6b : decide ((6 : Int) < l.length) = true := by simp; omega
        have h8b : decide ((l.length : Int) ≤ 8) = true := by simp; omega
        go_wp2_with fail
        go_ret
        exact ⟨rfl, hbx⟩
      · have h6b : decide ((6 : Int) < l.length) = false := by simp; omega
        go_wp2_with fail
        refine (HLe.out _ hbx).mono ?_
        rintro e w7 ⟨hb7, hpost⟩
        have hbx7 := hbx.trans (hb7.mono hbx.size)
        have hVa := HVa.out _ hbx7
        rcases hpost with ⟨hv, rfl⟩ | ⟨hv, hn, rfl⟩ | ⟨hv, hn, A7, cap7, rfl, hown7⟩
        · rw [hv] at hVa
          clear hv hb7
          go_wp2_with (go_at_call 42; refine hVa.mono ?_; rintro e w8 ⟨rfl, hb8⟩)
          go_ret
          exact ⟨rfl, hbx7.trans (hb8.mono hbx7.size)⟩
        · rw [hv] at hVa
          have HN := Lib.hid hn
          clear hv hb7 hn
          go_wp2_with (first
            | (go_at_call 42; refine hVa.mono ?_; rintro e w8 ⟨rfl, hb8⟩; have hbx8 := hbx7.trans (hb8.mono hbx7.size); have hNe := HNe.out _ hbx8; rw [HN.out] at hNe)
            | (go_at_call 43; refine hNe.mono ?_; rintro e w9 ⟨rfl, rfl⟩))
          go_ret
          exact ⟨rfl, hbx8⟩
        · have hv' := valid_right hv
          rw [hv] at hVa
          have HN := Lib.hid hn
          have HO : Hid (IntsAt w7 w7.heap.size (.slice A7 (leastN l c p).2.length cap7) (leastN l c p).2) := RowAt.of_own hown7
          have HCP : Hid (0 ≤ c ∧ 0 ≤ p) := ⟨hv'.2.1, hv'.2.2.2.1⟩
          have HRef : Hid (∀ w1, Below w.heap.size w w1 → Calls Try.prog 44 #[.slice A l.length cc, .int .i64 c, .int .i64 p] w1 (FurPost (leastN l c p) w1)) := fun w1 hb => refLeast43 _ l c p w1 HRT.out HCP.out HN.out (HT.out w1 hb)
          unfold FurPost at HRef
          clear hv hb7 hn hown7 hv'
          generalize leastN l c p = r at *
          obtain ⟨rn, rl⟩ := r
          simp only at HO HRef ⊢
          go_wp2_with (first
            | (go_at_call 42; refine hVa.mono ?_; rintro e w8 ⟨rfl, hb8⟩; have hbx8 := hbx7.trans (hb8.mono hbx7.size); have hNe := HNe.out _ hbx8; rw [HN.out] at hNe; have HO8 := Lib.hid ((HO.out.below hb8 (Nat.le_refl _)).mono hb8.size))
            | (go_at_call 43; refine hNe.mono ?_; rintro e w9 ⟨rfl, rfl⟩))
          refine (HRef.out _ hbx8).mono ?_
          rintro e w9 ⟨hb9, hrb, A9, cap9, rfl, hown9⟩
          have hbx9 := hbx8.trans (hb9.mono hbx8.size)
          have hE := equalInt _ _ _ _ w9.heap.size w9 ((HO8.out.below hb9 (Nat.le_refl _)).mono hb9.size) (RowAt.of_own hown9)
          rw [decide_eq_true rfl] at hE
          have hbb : (rn == rn) = true := by simp
          clear hb9 hown9 hrb
          go_wp2_with fail
          refine hE.mono ?_
          rintro e w10 ⟨rfl, q2, rfl⟩
          go_wp2_with fail
          go_ret
          exact ⟨rfl, below_drewN hbx9 q2⟩

end Go.Proofs.Ytcjejcbikgcnbaa

/- ScheduleLeast: for every input the law returns true, and its arguments read as they did. -/
namespace Go.Proofs.Ytcjejcbikgcnbaa
open Go.ChangeShapes Go.WideShapes Go.ChangeAt Go.RowKit

set_option maxRecDepth 100000 in
theorem scheduleLeast_lifted (os : Os) (started : os.Started) (H : Type) (enc : TypeId × Value → H) :
    ReturnsInHanded {} Try.checked os 7 .any (Rows.scheduleLeastSpec.pre6 enc Try.prog Try.f7 Rows.scheduleLeastRow.domain false) (Rows.scheduleLeastSpec.post enc Try.prog Try.f7 false true false false) := by
  refine law_lifted started (by kernel_rfl) Try.func7 rfl (by kernel_rfl) ?_ ?_ (ChangeSpec.witness6 (enc := enc) (C := Try.checked) false ⟨#[], #[.slice none 0 0, .int .i64 0, .int .i64 0], []⟩ 8 (by kernel_rfl) (by kernel_rfl) (by kernel_rfl) (by kernel_rfl)) ?_
  · rw [Try.params7]
    intro t ht
    simp only [List.mem_cons, List.not_mem_nil, or_false] at ht
    rcases ht with rfl | rfl | rfl <;> exact ⟨by kernel_rfl, of_decide_eq_true (by kernel_rfl)⟩
  · intro ds hds
    match ds, hds with
    | [d0, d1, d2], _ => exact ⟨rfl, rfl, rfl⟩
  · intro W base args ds ps hval hA
    rw [Try.params7] at hA hval
    obtain ⟨v0, vs0, d0, ds0, p0, q0, hargs, rfl, rfl, h0, r0⟩ := trodAll_cons hA
    obtain ⟨v1, vs1, d1, ds1, p1, q1, rfl, rfl, rfl, h1, r1⟩ := trodAll_cons r0
    obtain ⟨v2, vs2, d2, ds2, p2, q2, rfl, rfl, rfl, h2, r2⟩ := trodAll_cons r1
    obtain ⟨rfl, rfl, rfl⟩ := trodAll_nil r2
    obtain rfl : args = #[v0, v1, v2] := by cases args; simp_all
    obtain ⟨a0, n0, c0, rfl⟩ := okWide_slice Try.underlying22 (hval 0 22 v0 rfl rfl)
    obtain ⟨fuel0, hf0⟩ := h0
    obtain ⟨x0, hx0⟩ := tasks_of_trod hf0
    obtain ⟨x1, rfl, -, -, wf1⟩ := open_int Try.underlying3 (hval 1 3 v1 rfl rfl) h1
    clear wf1
    obtain ⟨x2, rfl, -, -, wf2⟩ := open_int Try.underlying3 (hval 2 3 v2 rfl rfl) h2
    clear wf2
    exact lawScheduleLeast _ x0 x1 x2 W hx0

theorem scheduleLeast_holds : Rows.ScheduleLeastSaid :=
  OpenClaim.holds_of_wide 7 Try.f7 rfl rfl rfl rfl rfl rfl rfl ⟨rfl, rfl, rfl, rfl, rfl⟩ rfl rfl rfl rfl rfl (by kernel_rfl) Try.func7 (by kernel_rfl)
    (of_decide_eq_true (by kernel_rfl)) (by unfold Func.isWrapper; first | (rw [if_pos (by decide +kernel)]; kernel_rfl) | (rw [if_neg (by decide +kernel)]; exact ⟨rfl, rfl⟩))
    (fun os started H enc _ => scheduleLeast_lifted os started H enc)
#print axioms scheduleLeast_holds

end Go.Proofs.Ytcjejcbikgcnbaa
