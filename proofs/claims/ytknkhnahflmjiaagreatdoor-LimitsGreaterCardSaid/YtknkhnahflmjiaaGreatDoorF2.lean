/- Parts of the proof, laid into one text: BatV. -/
import Derived.BigQuiet
import Derived.Deep.AppendLies
import Derived.Deep.Draws
import Derived.Deep.LoopGhost
import Derived.Deep.QuietTactic
import Derived.IntWalk
import Derived.Lib.Hide
import Derived.Maps.AppendAt
import Derived.Maps.Own
import Derived.Maps.OwnOps
import Derived.Maps.OwnSet
import Derived.Maps.Views
import Derived.PlainAid
import Derived.Shelf.Abstract
import Derived.StillTailTactics
import Derived.Test.YtknkhnahflmjiaaGreatDoorB1
import Derived.Test.YtknkhnahflmjiaaGreatDoorF1
import Derived.Test.YtknkhnahflmjiaaGreatDoorProg
import Derived.WalkKit
import Derived.WalkLawsBesides
import Derived.WalkSpells

namespace Go.Proofs.YtknkhnahflmjiaaGreatDoor
open Go.RowKit Go.Shelf
def setB (s : SetT) : Bool := nameB s.name && (betweenB s.depth 0 1048576 && (decide (0 ≤ s.low) && (decide (s.low ≤ s.high) && (decide (s.high ≤ 1048576) && (betweenB s.len 1000 1048576 && ((s.len % 1000 == 0) && (linesB s.lines s.len && (betweenB s.pipe 0 1048576 && (betweenB s.arbor 0 1048576 && (betweenB s.purch 1 2 && (betweenB s.most 1 67108864 && (betweenB s.brake 0 67108864 && (itemsB s.items s.len && (bricksB s.bricks))))))))))))))
structure SetNames (s : SetT) : Prop where
 name : s.name.size ≤ maxLen
 items : ∀ x ∈ s.items,x.name.size ≤ maxLen
 bricks : ∀ x ∈ s.bricks,x.name.size ≤ maxLen
set_option maxRecDepth 100000 in
set_option maxHeartbeats 8000000 in
theorem batValid (v : Value) (s : SetT) (w : World) (hv : SetAt w w.heap.size v s) (hn : SetNames s) :
  Calls Tryz.prog 87 #[v] w fun e w' => e = .returned (.bool (setB s)) ∧ Below w.heap.size w w' := by
 obtain ⟨Al,cl,Ai,ci,Ab,cb,rfl,hL,hI,hB⟩ := hv
 have hnm := fun W => decIsName s.name hn.name W
 have HLi := Lib.hid fun W (hb : Below w.heap.size w W) => batLines _ s.lines s.len W.heap.size W ((RowAt.below hL hb (Nat.le_refl _)).mono hb.size)
 have HIt := Lib.hid fun hlen W (hb : Below w.heap.size w W) => batItems _ s.items s.len W ((hI.below hb (Nat.le_refl _)).mono hb.size) hn.items hlen
 have HBr := Lib.hid fun W (hb : Below w.heap.size w W) => batBricks _ s.bricks W ((hB.below hb (Nat.le_refl _)).mono hb.size) hn.bricks
 have HV : Hid (setB s = (nameB s.name && (betweenB s.depth 0 1048576 && (decide (0 ≤ s.low) && (decide (s.low ≤ s.high) && (decide (s.high ≤ 1048576) && (betweenB s.len 1000 1048576 && ((s.len % 1000 == 0) && (linesB s.lines s.len && (betweenB s.pipe 0 1048576 && (betweenB s.arbor 0 1048576 && (betweenB s.purch 1 2 && (betweenB s.most 1 67108864 && (betweenB s.brake 0 67108864 && (itemsB s.items s.len && (bricksB s.bricks)))))))))))))))) := rfl
 have HD := Lib.hid (Blk.new w 37 #[.string s.name,.int .i64 s.depth,.int .i64 s.low,.int .i64 s.high,.int .i64 s.len,.slice Al s.lines.length cl,.int .i64 s.pipe,.int .i64 s.arbor,.int .i64 s.purch,.int .i64 s.most,.int .i64 s.brake,.slice Ai s.items.length ci,.slice Ab s.bricks.length cb])
 have HB1 := Lib.hid ((Below.refl _ w).alloc (Nat.le_refl _) (.cells #[.string s.name,.int .i64 s.depth,.int .i64 s.low,.int .i64 s.high,.int .i64 s.len,.slice Al s.lines.length cl,.int .i64 s.pipe,.int .i64 s.arbor,.int .i64 s.purch,.int .i64 s.most,.int .i64 s.brake,.slice Ai s.items.length ci,.slice Ab s.bricks.length cb] 37))
 clear hL hI hB hn
 unfold setVal
 go_enter Tryz.func87,Tryz.ntmps87
 go_wp2_with (go_at_call 126;fail)
 go_at_call 126
 generalize w.alloc (.cells #[.string s.name,.int .i64 s.depth,.int .i64 s.low,.int .i64 s.high,.int .i64 s.len,.slice Al s.lines.length cl,.int .i64 s.pipe,.int .i64 s.arbor,.int .i64 s.purch,.int .i64 s.most,.int .i64 s.brake,.slice Ai s.items.length ci,.slice Ab s.bricks.length cb] 37) = W1 at *
 have z0 := HD.out.cell 0;have z1 := HD.out.cell 1;have z2 := HD.out.cell 2;have z3 := HD.out.cell 3;have z4 := HD.out.cell 4;have z5 := HD.out.cell 5;have z6 := HD.out.cell 6;have z7 := HD.out.cell 7;have z8 := HD.out.cell 8;have z9 := HD.out.cell 9;have z10 := HD.out.cell 10;have z11 := HD.out.cell 11;have z12 := HD.out.cell 12
 simp only [List.getElem?_toArray,List.getElem?_cons_succ,List.getElem?_cons_zero] at z0 z1 z2 z3 z4 z5 z6 z7 z8 z9 z10 z11 z12
 refine (hnm _).mono ?_
 rintro e w' ⟨rfl,rfl⟩
 rcases Bool.eq_false_or_eq_true (nameB s.name) with h0 | h0
 rotate_left
 ·have HV2 : Hid (setB s = false) := by unfold Hid;rw [HV.out,h0];simp only [Bool.false_and]
  rw [h0]
  go_wp2_with fail
  go_ret
  exact ⟨ret_bool HV2.out.symm,HB1.out⟩
 rw [h0] at HV ⊢
 clear h0
 go_wp2_with (go_at_call 127;fail)
 go_at_call 127
 refine (batBetween _ _ _ _).mono ?_
 rintro e w' ⟨rfl,rfl⟩
 rcases Bool.eq_false_or_eq_true (betweenB s.depth 0 1048576) with h1 | h1
 rotate_left
 ·have HV2 : Hid (setB s = false) := by unfold Hid;rw [HV.out,h1];simp only [Bool.false_and,Bool.and_false]
  rw [h1]
  go_wp2_with fail
  go_ret
  exact ⟨ret_bool HV2.out.symm,HB1.out⟩
 rw [h1] at HV ⊢
 clear h1
 rcases Bool.eq_false_or_eq_true (decide (0 ≤ s.low)) with h2 | h2
 rotate_left
 ·have HV2 : Hid (setB s = false) := by unfold Hid;rw [HV.out,h2];simp only [Bool.false_and,Bool.and_false]
  go_wp2_with fail
  go_ret
  exact ⟨ret_bool HV2.out.symm,HB1.out⟩
 rw [h2] at HV
 rcases Bool.eq_false_or_eq_true (decide (s.low ≤ s.high)) with h3 | h3
 rotate_left
 ·have HV2 : Hid (setB s = false) := by unfold Hid;rw [HV.out,h3];simp only [Bool.false_and,Bool.and_false]
  go_wp2_with fail
  go_ret
  exact ⟨ret_bool HV2.out.symm,HB1.out⟩
 rw [h3] at HV
 rcases Bool.eq_false_or_eq_true (decide (s.high ≤ 1048576)) with h4 | h4
 rotate_left
 ·have HV2 : Hid (setB s = false) := by unfold Hid;rw [HV.out,h4];simp only [Bool.false_and,Bool.and_false]
  go_wp2_with fail
  go_ret
  exact ⟨ret_bool HV2.out.symm,HB1.out⟩
 rw [h4] at HV
 go_wp2_with (go_at_call 127;fail)
 go_at_call 127
 refine (batBetween _ _ _ _).mono ?_
 rintro e w' ⟨rfl,rfl⟩
 rcases Bool.eq_false_or_eq_true (betweenB s.len 1000 1048576) with h5 | h5
 rotate_left
 ·have HV2 : Hid (setB s = false) := by unfold Hid;rw [HV.out,h5];simp only [Bool.false_and,Bool.and_false]
  rw [h5]
  go_wp2_with fail
  go_ret
  exact ⟨ret_bool HV2.out.symm,HB1.out⟩
 rw [h5] at HV ⊢
 have hlen := between_bd h5
 have htm : s.len.tmod 1000 = s.len % 1000 := Int.tmod_eq_emod_of_nonneg (by omega)
 have vr : IntKind.i64.wrap (s.len % 1000) = s.len % 1000 := IntWalk.i64_in _ (by omega)
 clear h5
 rcases Bool.eq_false_or_eq_true ((s.len % 1000 == 0)) with h6 | h6
 rotate_left
 ·have HV2 : Hid (setB s = false) := by unfold Hid;rw [HV.out,h6];simp only [Bool.false_and,Bool.and_false]
  go_wp2_with fail
  go_ret
  exact ⟨ret_bool HV2.out.symm,HB1.out⟩
 rw [h6] at HV
 go_wp2_with (go_at_call 128;fail)
 go_at_call 128
 refine (HLi.out _ HB1.out).mono ?_
 rintro e w' ⟨rfl,nq,rfl⟩
 have hq := below_drewN HB1.out nq
 have HD2 := Lib.hid (HD.out.drewN nq)
 clear z0 z1 z2 z3 z4 z5 z6 z7 z8 z9 z10 z11 z12 HD HB1 HLi
 generalize W1.drewN nq = W2 at *
 have z0 := HD2.out.cell 0;have z1 := HD2.out.cell 1;have z2 := HD2.out.cell 2;have z3 := HD2.out.cell 3;have z4 := HD2.out.cell 4;have z5 := HD2.out.cell 5;have z6 := HD2.out.cell 6;have z7 := HD2.out.cell 7;have z8 := HD2.out.cell 8;have z9 := HD2.out.cell 9;have z10 := HD2.out.cell 10;have z11 := HD2.out.cell 11;have z12 := HD2.out.cell 12
 simp only [List.getElem?_toArray,List.getElem?_cons_succ,List.getElem?_cons_zero] at z0 z1 z2 z3 z4 z5 z6 z7 z8 z9 z10 z11 z12
 rcases Bool.eq_false_or_eq_true (linesB s.lines s.len) with h7 | h7
 rotate_left
 ·have HV2 : Hid (setB s = false) := by unfold Hid;rw [HV.out,h7];simp only [Bool.false_and,Bool.and_false]
  rw [h7]
  go_wp2_with fail
  go_ret
  exact ⟨ret_bool HV2.out.symm,hq⟩
 rw [h7] at HV ⊢
 clear h7
 go_wp2_with (go_at_call 127;fail)
 go_at_call 127
 refine (batBetween _ _ _ _).mono ?_
 rintro e w' ⟨rfl,rfl⟩
 rcases Bool.eq_false_or_eq_true (betweenB s.pipe 0 1048576) with h8 | h8
 rotate_left
 ·have HV2 : Hid (setB s = false) := by unfold Hid;rw [HV.out,h8];simp only [Bool.false_and,Bool.and_false]
  rw [h8]
  go_wp2_with fail
  go_ret
  exact ⟨ret_bool HV2.out.symm,hq⟩
 rw [h8] at HV ⊢
 clear h8
 go_wp2_with (go_at_call 127;fail)
 go_at_call 127
 refine (batBetween _ _ _ _).mono ?_
 rintro e w' ⟨rfl,rfl⟩
 rcases Bool.eq_false_or_eq_true (betweenB s.arbor 0 1048576) with h9 | h9
 rotate_left
 ·have HV2 : Hid (setB s = false) := by unfold Hid;rw [HV.out,h9];simp only [Bool.false_and,Bool.and_false]
  rw [h9]
  go_wp2_with fail
  go_ret
  exact ⟨ret_bool HV2.out.symm,hq⟩
 rw [h9] at HV ⊢
 clear h9
 go_wp2_with (go_at_call 127;fail)
 go_at_call 127
 refine (batBetween _ _ _ _).mono ?_
 rintro e w' ⟨rfl,rfl⟩
 rcases Bool.eq_false_or_eq_true (betweenB s.purch 1 2) with h10 | h10
 rotate_left
 ·have HV2 : Hid (setB s = false) := by unfold Hid;rw [HV.out,h10];simp only [Bool.false_and,Bool.and_false]
  rw [h10]
  go_wp2_with fail
  go_ret
  exact ⟨ret_bool HV2.out.symm,hq⟩
 rw [h10] at HV ⊢
 clear h10
 go_wp2_with (go_at_call 127;fail)
 go_at_call 127
 refine (batBetween _ _ _ _).mono ?_
 rintro e w' ⟨rfl,rfl⟩
 rcases Bool.eq_false_or_eq_true (betweenB s.most 1 67108864) with h11 | h11
 rotate_left
 ·have HV2 : Hid (setB s = false) := by unfold Hid;rw [HV.out,h11];simp only [Bool.false_and,Bool.and_false]
  rw [h11]
  go_wp2_with fail
  go_ret
  exact ⟨ret_bool HV2.out.symm,hq⟩
 rw [h11] at HV ⊢
 clear h11
 go_wp2_with (go_at_call 127;fail)
 go_at_call 127
 refine (batBetween _ _ _ _).mono ?_
 rintro e w' ⟨rfl,rfl⟩
 rcases Bool.eq_false_or_eq_true (betweenB s.brake 0 67108864) with h12 | h12
 rotate_left
 ·have HV2 : Hid (setB s = false) := by unfold Hid;rw [HV.out,h12];simp only [Bool.false_and,Bool.and_false]
  rw [h12]
  go_wp2_with fail
  go_ret
  exact ⟨ret_bool HV2.out.symm,hq⟩
 rw [h12] at HV ⊢
 clear h12
 go_wp2_with (go_at_call 129;fail)
 go_at_call 129
 refine (HIt.out hlen _ hq).mono ?_
 rintro e w3 ⟨rfl,hb3⟩
 have hq3 := hq.trans (hb3.mono hq.size)
 have HD3 := Lib.hid (HD2.out.below hb3 HD2.out.lt)
 clear z0 z1 z2 z3 z4 z5 z6 z7 z8 z9 z10 z11 z12 HD2 hb3 HIt
 have q0 := HD3.out.cell 0;have q1 := HD3.out.cell 1;have q2 := HD3.out.cell 2;have q3 := HD3.out.cell 3;have q4 := HD3.out.cell 4;have q5 := HD3.out.cell 5;have q6 := HD3.out.cell 6;have q7 := HD3.out.cell 7;have q8 := HD3.out.cell 8;have q9 := HD3.out.cell 9;have q10 := HD3.out.cell 10;have q11 := HD3.out.cell 11;have q12 := HD3.out.cell 12
 simp only [List.getElem?_toArray,List.getElem?_cons_succ,List.getElem?_cons_zero] at q0 q1 q2 q3 q4 q5 q6 q7 q8 q9 q10 q11 q12
 rcases Bool.eq_false_or_eq_true (itemsB s.items s.len) with h13 | h13
 rotate_left
 ·have HV2 : Hid (setB s = false) := by unfold Hid;rw [HV.out,h13];simp only [Bool.false_and,Bool.and_false]
  rw [h13]
  go_wp2_with fail
  go_ret
  exact ⟨ret_bool HV2.out.symm,hq3⟩
 rw [h13] at HV ⊢
 clear h13
 go_wp2_with (go_at_call 130;fail)
 go_at_call 130
 refine (HBr.out _ hq3).mono ?_
 rintro e w4 ⟨rfl,hb4⟩
 have hq4 := hq3.trans (hb4.mono hq3.size)
 rcases Bool.eq_false_or_eq_true (bricksB s.bricks) with h14 | h14
 all_goals
  have HV2 := HV.out
  rw [h14] at HV2 ⊢
  simp only [Bool.and_false,Bool.and_true] at HV2
  have HV3 := Lib.hid HV2
  clear HV2
  go_wp2_with fail
  go_ret
  exact ⟨ret_bool HV3.out.symm,hq4⟩
end Go.Proofs.YtknkhnahflmjiaaGreatDoor
