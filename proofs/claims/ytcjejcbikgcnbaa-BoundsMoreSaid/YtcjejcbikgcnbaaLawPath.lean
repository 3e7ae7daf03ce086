/- The law BoundsPath: the walk. -/
import Derived.Test.YtcjejcbikgcnbaaAwake
import Derived.Test.YtcjejcbikgcnbaaLong
namespace Go.Proofs.Ytcjejcbikgcnbaa
open Go.RowKit Go.Shelf

theorem Covers.uniqH {l : List Task} {b : List Nat} {L L' : Int} {y y' : List Nat} (h : Covers l b L y) (h' : Covers l b L' y') : L = L' ∧ y = y' := h.uniq h'

set_option maxRecDepth 100000 in
set_option maxHeartbeats 4000000 in
theorem lawBoundsPath (v : Value) (l : List Task) (w : World) (hl : TasksAt w w.heap.size v l) :
    Calls Try.prog 3 #[v] w fun e w' => e = .returned (.bool true) ∧ Below w.heap.size w w' := by
  have HL := Lib.hid hl
  have hA := lawAwake w
  have HT : ∀ w1, Below w.heap.size w w1 → TasksAt w1 w1.heap.size v l := fun w1 hb => (HL.out.below hb (Nat.le_refl _)).mono hb.size
  have HT := Lib.hid HT
  have hLong := fun w1 hb => lawLong v l w1 (HT.out w1 hb)
  clear hl
  cases hlg : longL l with
  | true =>
    rw [hlg] at hLong
    clear hlg
    go_enter Try.func3, Try.ntmps3
    go_wp2_with (first
      | (go_at_call 16; refine hA.mono ?_; rintro e w1 ⟨rfl, hb1⟩)
      | (go_at_call 17; refine (hLong _ hb1).mono ?_; rintro e w2 ⟨rfl, hb2⟩))
    go_ret
    exact ⟨rfl, hb1.trans (hb2.mono hb1.size)⟩
  | false =>
    rw [hlg] at hLong
    have hR := fun w1 hb => refRight v l w1 (HT.out w1 hb)
    have hP := fun w1 hb => boundsPath v l w1 (HT.out w1 hb)
    clear hlg
    go_enter Try.func3, Try.ntmps3
    go_wp2_with (first
      | (go_at_call 16; refine hA.mono ?_; rintro e w1 ⟨rfl, hb1⟩)
      | (go_at_call 17; refine (hLong _ hb1).mono ?_; rintro e w2 ⟨rfl, hb2⟩))
    have hb := hb1.trans (hb2.mono hb1.size)
    clear hb1 hb2 hA hLong
    refine (hP _ hb).mono ?_
    rintro e w3 ⟨hb3, hpost⟩
    have hbx := hb.trans (hb3.mono hb.size)
    cases hr : rightR l with
    | false =>
      rcases hpost with ⟨_, rfl⟩ | ⟨hno, _⟩
      rotate_left
      · rw [hr] at hno; cases hno
      have hR := hR _ hbx
      rw [hr] at hR
      clear hr hb3 hb hP
      go_wp2_with (go_at_call 19; refine hR.mono ?_; rintro e w4 ⟨rfl, hb4⟩)
      go_ret
      exact ⟨rfl, hbx.trans (hb4.mono hbx.size)⟩
    | true =>
      rcases hpost with ⟨hno, _⟩ | ⟨_, L, y, v2, hc, rfl, hown⟩
      · rw [hr] at hno; cases hno
      have hRT := (right_iff l).1 hr
      have h8 := hRT.len
      have hyl := hc.chain.short hRT
      have hR := hR _ hbx
      rw [hr] at hR
      have Hs2 : StrsAt w3 w3.heap.size v2 (nmsAt l y) := RowAt.of_own hown
      have Hc := Lib.hid hc
      have HRT := Lib.hid hRT
      have hsl : (nmsAt l y).length = y.length := by simp [nmsAt]
      clear hr hb3 hb hP hown hc hRT
      go_wp2_with (go_at_call 19; refine hR.mono ?_; rintro e w4 ⟨rfl, hb4⟩)
      have Hs2 := (Hs2.below hb4 (Nat.le_refl _)).mono hb4.size
      have hbx := hbx.trans (hb4.mono hbx.size)
      clear hR hb4
      refine (refPath v l w4 HRT.out (HT.out _ hbx)).mono ?_
      rintro e w5 ⟨hb5, L', y', v3, hc', rfl, hown⟩
      obtain ⟨rfl, rfl⟩ := Hc.out.uniqH hc'
      have Hs2 := (Hs2.below hb5 (Nat.le_refl _)).mono hb5.size
      have hbx := hbx.trans (hb5.mono hbx.size)
      have hu : IntsAt w5 w5.heap.size v3 (ints y) := RowAt.of_own (show w5.ownsRow w4.heap.size 3 1 v3 y.length ((ints y).map (Value.int .i64)) from hown)
      have hN := refNames v v3 l y w5 (HT.out _ hbx) hu Hc.out.chain.1 (by omega)
      have hb0 : (L == L) = true := by simp
      clear hc' hb5 hown hu
      go_wp2_with fail
      refine hN.mono ?_
      rintro e w6 ⟨hb6, v4, rfl, hown⟩
      have Hs2 := (Hs2.below hb6 (Nat.le_refl _)).mono hb6.size
      have hbx := hbx.trans (hb6.mono hbx.size)
      have Hs4 : StrsAt w6 w6.heap.size v4 (nmsAt l y) := RowAt.of_own (n := y.length) hown
      have hE := equalStr _ _ _ _ _ _ Hs2 Hs4
      rw [decide_eq_true rfl] at hE
      clear hN hb6 hown
      go_wp2_with fail
      refine hE.mono ?_
      rintro e w7 ⟨rfl, q, rfl⟩
      go_wp2_with fail
      go_ret
      exact ⟨rfl, below_drewN hbx q⟩

end Go.Proofs.Ytcjejcbikgcnbaa
