/- For every input the law returns true, and its arguments read as they did: LawLists, RowLists. -/
import Derived.Test.YtcjejcbikgcnbaaG10
import Derived.Test.YtcjejcbikgcnbaaG12
import Derived.Test.YtcjejcbikgcnbaaG7

/- The law ScheduleLists: the walk. -/
namespace Go.Proofs.Ytcjejcbikgcnbaa
open Go.RowKit Go.Shelf

theorem shortB_len {l : List Task} {A : Option Addr} {n c : Nat} (h : shortB l [.slice A n c] = true) : n ≤ 12 := by
  unfold shortB at h
  simp only [Bool.and_eq_true, Bool.not_eq_true', List.any_cons, List.any_nil, Bool.or_false] at h
  have := h.2
  unfold longV at this
  simpa using this
theorem order_placed {l : List Task} {xs : List Int} (h : orderN l xs = 0) : xs.length = l.length ∧ xs.any (outN l.length) = false ∧ xs.Nodup ∧ Placed l (natsOf xs) := by
  unfold orderN at h
  split at h
  · cases h
  · rename_i h1
    split at h
    · cases h
    · rename_i h2
      split at h
      · cases h
      · rename_i h3
        split at h
        · rename_i h4
          have e1 : xs.length = l.length := by simpa using h1
          have e2 : xs.any (outN l.length) = false := by simpa using h2
          have e3 : xs.Nodup := by simpa using h3
          exact ⟨e1, e2, e3, placed_of (natsOf_nodup e2 e3) (natsOf_lt e2) (by rw [natsOf_len, e1]; exact h4)⟩
        · cases h

set_option maxRecDepth 100000 in
set_option maxHeartbeats 8000000 in
theorem lawScheduleLists (v u : Value) (l : List Task) (c p : Int) (xs : List Int) (w : World) (hl : TasksAt w w.heap.size v l) (hs : IntsAt w w.heap.size u xs) (hw : Wide xs) :
    Calls Try.prog 12 #[v, .int .i64 c, .int .i64 p, u] w fun e w' => e = .returned (.bool true) ∧ Below w.heap.size w w' := by
  have hA := lawAwake43 w
  have HT : Hid (∀ w1, Below w.heap.size w w1 → TasksAt w1 w1.heap.size v l) := fun w1 hb => (hl.below hb (Nat.le_refl _)).mono hb.size
  have HS : Hid (∀ w1, Below w.heap.size w w1 → IntsAt w1 w1.heap.size u xs) := fun w1 hb => (hs.below hb (Nat.le_refl _)).mono hb.size
  have HW := Lib.hid hw
  obtain ⟨A1, c1, rfl, hB1, hB2, -⟩ := hs.open_
  have hLong := fun w1 (hb : Below w.heap.size w w1) => lawShort v (.slice (some ⟨w1.heap.size, 0, none⟩) 1 1) l [.slice A1 xs.length c1] (w1.alloc (.cells #[.slice A1 xs.length c1] 29)) (HT.out _ (hb.alloc hb.size _)) (oneRow w1 _ _) (by
    intro u hu
    rw [List.mem_singleton.1 hu]
    exact ⟨A1, xs.length, c1, rfl, hB1, by unfold maxLen at hB2; omega⟩)
  have HVa : Hid (∀ w1, Below w.heap.size w w1 → Calls Try.prog 42 #[v, .int .i64 c, .int .i64 p] w1 fun e w' => e = .returned (.bool (validB l c p)) ∧ Below w1.heap.size w1 w') := fun w1 hb => refValid v l c p w1 (HT.out w1 hb)
  have HNe : Hid (∀ w1, Below w.heap.size w w1 → Calls Try.prog 43 #[v, .int .i64 c, .int .i64 p] w1 fun e w' => e = .returned (.bool (l.any (tooMuch c p))) ∧ w1 = w') := fun w1 hb => refNeeded v l c p w1.heap.size w1 (HT.out w1 hb)
  have hb0 : ∀ (w1 : World) o, Below w.heap.size w w1 → Below w.heap.size w (w1.alloc o) := fun w1 o hb => hb.alloc hb.size o
  obtain ⟨A, cc, rfl, hA1, hA2, -⟩ := hl.open_
  unfold maxLen at hA2 hB2
  clear hl hs hw
  cases hlg : shortB l [.slice A1 xs.length c1] with
  | false =>
    rw [hlg] at hLong
    clear hlg
    go_enter Try.func12, Try.ntmps12
    go_wp2_with (first
      | (go_at_call 37; refine hA.mono ?_; rintro e w1 ⟨rfl, hb1⟩)
      | (go_at_call 38; refine (hLong _ hb1).mono ?_; rintro e w2 ⟨rfl, hb2⟩))
    go_ret
    exact ⟨rfl, (hb0 _ _ hb1).trans (hb2.mono (hb0 _ _ hb1).size)⟩
  | true =>
    have hx12 := shortB_len hlg
    rw [hlg] at hLong
    have HLi : Hid (∀ w1, Below w.heap.size w w1 → Calls Try.prog 56 #[.slice A l.length cc, .int .i64 c, .int .i64 p, .slice A1 xs.length c1] w1 (ListWPost l c p xs w1)) := fun w1 hb => schedList _ _ l c p xs w1 (HT.out w1 hb) (HS.out w1 hb) HW.out (by omega)
    clear hlg
    go_enter Try.func12, Try.ntmps12
    go_wp2_with (first
      | (go_at_call 37; refine hA.mono ?_; rintro e w1 ⟨rfl, hb1⟩)
      | (go_at_call 38; refine (hLong _ hb1).mono ?_; rintro e w2 ⟨rfl, hb2⟩; have hbx := (hb0 _ (.cells #[.slice A1 xs.length c1] 29) hb1).trans (hb2.mono (hb0 _ (.cells #[.slice A1 xs.length c1] 29) hb1).size); clear hb1 hb2 hA hLong))
    refine (HLi.out _ hbx).mono ?_
    rintro e w3 ⟨hb3, hpost⟩
    have hbx3 := hbx.trans (hb3.mono hbx.size)
    have hVa := HVa.out _ hbx3
    rcases hpost with ⟨hv, rfl⟩ | ⟨hv, hn, rfl⟩ | ⟨hv, hn, ho, rfl⟩ | ⟨hv, hn, ho, S, rfl, hown⟩
    · rw [hv] at hVa
      clear hv hb3 hbx
      go_wp2_with (go_at_call 42; refine hVa.mono ?_; rintro e w4 ⟨rfl, hb4⟩)
      go_ret
      exact ⟨rfl, hbx3.trans (hb4.mono hbx3.size)⟩
    · rw [hv] at hVa
      rw [hn] at HNe
      clear hv hn hb3 hbx
      go_wp2_with (first
        | (go_at_call 42; refine hVa.mono ?_; rintro e w4 ⟨rfl, hb4⟩; have hbx4 := hbx3.trans (hb4.mono hbx3.size); have hNe := HNe.out _ hbx4)
        | (go_at_call 43; refine hNe.mono ?_; rintro e w5 ⟨rfl, rfl⟩))
      go_ret
      exact ⟨rfl, hbx4⟩
    · have hR := (valid_right hv).1
      have HOr : Hid (∀ w1, Below w.heap.size w w1 → Calls Try.prog 57 #[.slice A l.length cc, .slice A1 xs.length c1] w1 fun e w' => e = .returned (.int .i64 (orderN l xs)) ∧ ∃ q, w1.drewN q = w') := fun w1 hb => refOrder _ _ l xs w1 hR (HT.out w1 hb) (HS.out w1 hb) HW.out
      rw [hv] at hVa
      rw [hn] at HNe
      clear hv hn hb3 hbx hR
      generalize orderN l xs = on at *
      have hob : (on != 0) = true := bne_iff_ne.2 ho
      have hoe : (on == on) = true := beq_self_eq_true on
      clear ho
      go_wp2_with (first
        | (go_at_call 42; refine hVa.mono ?_; rintro e w4 ⟨rfl, hb4⟩; have hbx4 := hbx3.trans (hb4.mono hbx3.size); have hNe := HNe.out _ hbx4; have hOr := HOr.out _ hbx4)
        | (go_at_call 43; refine hNe.mono ?_; rintro e w5 ⟨rfl, rfl⟩)
        | (go_at_call 57; refine hOr.mono ?_; rintro e w6 ⟨rfl, q, rfl⟩))
      go_ret
      exact ⟨rfl, below_drewN hbx4 q⟩
    · obtain ⟨hR, hc0, -, hp0, -⟩ := valid_right hv
      obtain ⟨e1, e2, e3, hP⟩ := order_placed ho
      have HOr : Hid (∀ w1, Below w.heap.size w w1 → Calls Try.prog 57 #[.slice A l.length cc, .slice A1 xs.length c1] w1 fun e w' => e = .returned (.int .i64 0) ∧ ∃ q, w1.drewN q = w') := fun w1 hb => by
        have := refOrder _ _ l xs w1 hR (HT.out w1 hb) (HS.out w1 hb) HW.out
        rw [ho] at this
        exact this
      have HRL : Hid (∀ w1, Below w.heap.size w w1 → Calls Try.prog 58 #[.slice A l.length cc, .int .i64 c, .int .i64 p, .slice A1 xs.length c1] w1 (ListPost l c p (natsOf xs) w1)) := fun w1 hb =>
        refList _ _ l c p (natsOf xs) w1 hR ⟨hc0, hp0⟩ hn hP (HT.out w1 hb) (by rw [ints_natsOf e2]; exact HS.out w1 hb)
      have HOw := Lib.hid hown
      have HLn : Hid ((listAll l c p (natsOf xs)).length = l.length) := listR_len _
      unfold ListPost at HRL
      rw [hv] at hVa
      rw [hn] at HNe
      clear hv hn hb3 hbx hR hc0 hp0 e1 e2 e3 hP ho hown
      go_wp2_with (first
        | (go_at_call 42; refine hVa.mono ?_; rintro e w4 ⟨rfl, hb4⟩; have hbx4 := hbx3.trans (hb4.mono hbx3.size); have hNe := HNe.out _ hbx4; have hOr := HOr.out _ hbx4)
        | (go_at_call 43; refine hNe.mono ?_; rintro e w5 ⟨rfl, rfl⟩)
        | (go_at_call 57; refine hOr.mono ?_; rintro e w6 ⟨rfl, q, rfl⟩))
      have hbx6 := below_drewN hbx4 q
      have hb46 := below_drewN hb4 q
      refine (HRL.out _ hbx6).mono ?_
      rintro e w7 ⟨hb7, O, rfl, hown7⟩
      have hbx7 := hbx6.trans (hb7.mono hbx6.size)
      have hb37 := hb46.trans (hb7.mono hb46.size)
      have hi3 : IntsAt w3 w3.heap.size (.slice (some ⟨S, 0, none⟩) l.length l.length) (listAll l c p (natsOf xs)) := RowAt.of_own HOw.out
      have hE := equalInt _ _ _ _ w7.heap.size w7 ((hi3.below hb37 (Nat.le_refl _)).mono hb37.size) (RowAt.of_own hown7)
      rw [decide_eq_true rfl] at hE
      clear hb4 hb46 hb7 hown7 hi3 hb37 hNe hOr hVa
      go_wp2_with fail
      refine hE.mono ?_
      rintro e w8 ⟨rfl, q2, rfl⟩
      go_wp2_with fail
      go_ret
      exact ⟨rfl, below_drewN hbx7 q2⟩

end Go.Proofs.Ytcjejcbikgcnbaa

/- ScheduleLists: for every input the law returns true, and its arguments read as they did. -/
namespace Go.Proofs.Ytcjejcbikgcnbaa
open Go.ChangeShapes Go.WideShapes Go.ChangeAt Go.RowKit

set_option maxRecDepth 100000 in
theorem scheduleLists_lifted (os : Os) (started : os.Started) (H : Type) (enc : TypeId × Value → H) :
    ReturnsInHanded {} Try.checked os 12 .any (Rows.scheduleListsSpec.pre6 enc Try.prog Try.f12 Rows.scheduleListsRow.domain false) (Rows.scheduleListsSpec.post enc Try.prog Try.f12 false true false false) := by
  refine law_lifted started (by kernel_rfl) Try.func12 rfl (by kernel_rfl) ?_ ?_ (ChangeSpec.witness6 (enc := enc) (C := Try.checked) false ⟨#[], #[.slice none 0 0, .int .i64 0, .int .i64 0, .slice none 0 0], []⟩ 8 (by kernel_rfl) (by kernel_rfl) (by kernel_rfl) (by kernel_rfl)) ?_
  · rw [Try.params12]
    intro t ht
    simp only [List.mem_cons, List.not_mem_nil, or_false] at ht
    rcases ht with rfl | rfl | rfl | rfl <;> exact ⟨by kernel_rfl, of_decide_eq_true (by kernel_rfl)⟩
  · intro ds hds
    match ds, hds with
    | [d0, d1, d2, d3], _ => exact ⟨rfl, rfl, rfl⟩
  · intro W base args ds ps hval hA
    rw [Try.params12] at hA hval
    obtain ⟨v0, vs0, d0, ds0, p0, q0, hargs, rfl, rfl, h0, r0⟩ := trodAll_cons hA
    obtain ⟨v1, vs1, d1, ds1, p1, q1, rfl, rfl, rfl, h1, r1⟩ := trodAll_cons r0
    obtain ⟨v2, vs2, d2, ds2, p2, q2, rfl, rfl, rfl, h2, r2⟩ := trodAll_cons r1
    obtain ⟨v3, vs3, d3, ds3, p3, q3, rfl, rfl, rfl, h3, r3⟩ := trodAll_cons r2
    obtain ⟨rfl, rfl, rfl⟩ := trodAll_nil r3
    obtain rfl : args = #[v0, v1, v2, v3] := by cases args; simp_all
    obtain ⟨a0, n0, c0, rfl⟩ := okWide_slice Try.underlying22 (hval 0 22 v0 rfl rfl)
    obtain ⟨fuel0, hf0⟩ := h0
    obtain ⟨x0, hx0⟩ := tasks_of_trod hf0
    obtain ⟨x1, rfl, -, -, wf1⟩ := open_int Try.underlying3 (hval 1 3 v1 rfl rfl) h1
    clear wf1
    obtain ⟨x2, rfl, -, -, wf2⟩ := open_int Try.underlying3 (hval 2 3 v2 rfl rfl) h2
    clear wf2
    obtain ⟨a3, n3, c3, rfl⟩ := okWide_slice Try.underlying29 (hval 3 29 v3 rfl rfl)
    obtain ⟨fuel3, hf3⟩ := h3
    obtain ⟨x3, hx3, hw3⟩ := ints_of_trod hf3
    exact lawScheduleLists _ _ x0 x1 x2 x3 W hx0 hx3 hw3

theorem scheduleLists_holds : Rows.ScheduleListsSaid :=
  OpenClaim.holds_of_wide 12 Try.f12 rfl rfl rfl rfl rfl rfl rfl ⟨rfl, rfl, rfl, rfl, rfl⟩ rfl rfl rfl rfl rfl (by kernel_rfl) Try.func12 (by kernel_rfl)
    (of_decide_eq_true (by kernel_rfl)) (by unfold Func.isWrapper; first | (rw [if_pos (by decide +kernel)]; kernel_rfl) | (rw [if_neg (by decide +kernel)]; exact ⟨rfl, rfl⟩))
    (fun os started H enc _ => scheduleLists_lifted os started H enc)
#print axioms scheduleLists_holds

end Go.Proofs.Ytcjejcbikgcnbaa
