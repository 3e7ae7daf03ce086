/- The reference's Best of layer 44. -/
import Derived.Test.YtcjejcbikgcnbaaRefCliqueW
import Derived.Test.YtcjejcbikgcnbaaBest
namespace Go.Proofs.Ytcjejcbikgcnbaa
open Go.RowKit Go.Shelf

def RefBestPost (l : List Task) (c p : Int) (w : World) (e : Ending) (w' : World) : Prop :=
  Below w.heap.size w w' ∧ ∃ (L K : Int) (y : List Nat) (s : Nat), Covers l [l.length] L y ∧ Heavy l c p (2 ^ l.length) K s ∧ e = .returned (.int .i64 (max3 (workN l c p) L K))

set_option maxRecDepth 100000 in
set_option maxHeartbeats 4000000 in
theorem refBest (v : Value) (l : List Task) (c p : Int) (w : World) (hg : givenN l c p = 0) (hl : TasksAt w w.heap.size v l) :
    Calls Try.prog 29 #[v, .int .i64 c, .int .i64 p] w (RefBestPost l c p w) := by
  have hR := (givenN_zero hg).1
  have HT : ∀ w1, Below w.heap.size w w1 → TasksAt w1 w1.heap.size v l := fun w1 hb => (hl.below hb (Nat.le_refl _)).mono hb.size
  have hP := refPath v l w hR hl
  have hC := fun w1 hb => refClique v l c p w1 hR (HT w1 hb)
  have hW := fun w1 hb => refWork v l c p _ w1 (HT w1 hb) hg
  have HX : ∀ L K x, x = max3 (workN l c p) L K → Ending.returned (.int .i64 x) = .returned (.int .i64 (max3 (workN l c p) L K)) := fun L K x e => by rw [e]
  clear hl HT hg hR
  go_enter Try.func29, Try.ntmps29
  go_wp2_with fail
  refine hP.mono ?_
  rintro e w1 ⟨hb1, L, y, v1, hc, rfl, -⟩
  have Hc := Lib.hid hc
  clear hP hc
  go_wp2_with fail
  refine (hC _ hb1).mono ?_
  rintro e w2 ⟨hb2, K, s, v2, hh, rfl, -⟩
  have Hh := Lib.hid hh
  have hb := hb1.trans (hb2.mono hb1.size)
  clear hC hh hb1 hb2
  go_wp2_with (go_at_call 28; refine (hW _ hb).mono ?_; rintro e w3 ⟨rfl, q, rfl⟩)
  all_goals
    go_ret
    refine ⟨below_drewN hb q, L, K, y, s, Hc.out, Hh.out, HX _ _ _ ?_⟩
    unfold max3
    repeat' split
    all_goals omega

end Go.Proofs.Ytcjejcbikgcnbaa
