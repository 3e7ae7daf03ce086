/- schedule.newPlan. -/
import Derived.Test.YtcjejcbikgcnbaaRepeat
namespace Go.Proofs.Ytcjejcbikgcnbaa
open Go.RowKit Go.Shelf

/-- What newPlan leaves: a plan of the call's own. -/
structure NewPlan (w : World) (B g : Nat) (l : List Task) (c p : Int) (tv : Value) (O S : Nat) (cs : List Value) : Prop where
  blk : Blk w g 98 #[tv, .slice (some ⟨O, 0, none⟩) l.length l.length, .int .i64 c, .int .i64 p, .slice (some ⟨S, 0, none⟩) l.length l.length]
  hg : B ≤ g
  rows : BefRows w B O l l.length cs
  starts : w.ownsRow B 3 1 (.slice (some ⟨S, 0, none⟩) l.length l.length) l.length ((List.replicate l.length (-1)).map (Value.int .i64))

theorem BefRows.below {w w' : World} {base O : Nat} {l : List Task} {i : Nat} {cs : List Value} (h : BefRows w base O l i cs) (hb : Below w.heap.size w w') : BefRows w' base O l i cs :=
  h.past (grown_below hb)
theorem right_bef {l : List Task} (hR : RightT l) : (distinct l && befOK l) = true := by
  have h1 := hR.dist
  have h2 := hR.bef
  rw [h1, h2]
  rfl

set_option maxRecDepth 100000 in
set_option maxHeartbeats 2000000 in
theorem schedNewPlan (v : Value) (l : List Task) (c p : Int) (w : World) (hR : RightT l) (hl : TasksAt w w.heap.size v l) :
    Calls Try.prog 80 #[v, .int .i64 c, .int .i64 p] w fun e w' => ∃ g O S cs, e = .returned (.pointer (some ⟨g, 0, none⟩)) ∧ NewPlan w' w.heap.size g l c p v O S cs ∧ Below w.heap.size w w' := by
  have h8 := hR.len
  have hB := schedBefore v l w hl h8
  have hrb := right_bef hR
  have hB' : Calls Try.prog 91 #[v] w fun e w' => ∃ O cs, e = .returned (.tuple #[.slice (some ⟨O, 0, none⟩) l.length l.length, .bool true]) ∧ BefRows w' w.heap.size O l l.length cs ∧ Below w.heap.size w w' := hB.mono fun e w' h => by
    obtain ⟨hb, ⟨hno, _⟩ | ⟨_, O, cs, he, hr⟩⟩ := h
    · rw [hrb] at hno; cases hno
    · exact ⟨O, cs, he, hr, hb⟩
  obtain ⟨A, cc, rfl, hA1, hA2, -⟩ := hl.open_
  unfold maxLen at hA2
  clear hB hrb hl hR
  go_enter Try.func80, Try.ntmps80
  go_wp2_with fail
  refine hB'.mono ?_
  rintro e w1 ⟨O, cs, rfl, hrows, hb1⟩
  have hbo := (Below.refl w1.heap.size w1).alloc (Nat.le_refl _) (.cells #[.int .i64 (-1)] 3)
  have hR1 := repeatOne w1.heap.size (-1) l.length (w1.alloc (.cells #[.int .i64 (-1)] 3)) h8 (by rw [World.cell?_alloc_new]; rfl) (by simp)
  have hsz := hb1.size
  clear hB'
  go_wp2_with fail
  refine hR1.mono ?_
  rintro e w2 ⟨S, rfl, hown, hb2⟩
  have hb12 : Below w1.heap.size w1 w2 := hbo.trans (hb2.mono (by simp))
  have hrows2 := hrows.below hb12
  have hown2 : w2.ownsRow w.heap.size 3 1 (.slice (some ⟨S, 0, none⟩) l.length l.length) l.length ((List.replicate l.length (-1)).map (Value.int .i64)) := own_mono hown (by simp; omega)
  have hb := hb1.trans (hb12.mono hb1.size)
  have hsz2 := hb.size
  clear hR1 hbo hown hrows hb12 hb2
  go_wp2_with fail
  go_ret
  exact ⟨_, O, S, cs, rfl, ⟨Blk.new _ _ _, hsz2, hrows2.alloc _, hown2.alloc _⟩, hb.alloc hsz2 _⟩

end Go.Proofs.Ytcjejcbikgcnbaa
