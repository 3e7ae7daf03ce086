/- Parts of the proof, laid into one text: RefSame21, RefCopy21, GrowW. -/
import Derived.BigQuiet
import Derived.Deep.AppendLies
import Derived.Deep.Cut
import Derived.Deep.Draws
import Derived.Deep.LoopGhost
import Derived.Deep.MidRow
import Derived.Deep.QuietTactic
import Derived.IntWalk
import Derived.Laws.Bits64b
import Derived.Laws.Concat
import Derived.Lib.AppendIntMem
import Derived.Lib.Hide
import Derived.Lib.ItoaLen
import Derived.Lib.ItoaMem
import Derived.Lib.Join
import Derived.Lib.SmallJoins
import Derived.LoopIn
import Derived.LoopNIn
import Derived.Maps.AppendAt
import Derived.Maps.Own
import Derived.Maps.OwnOps
import Derived.Maps.OwnSet
import Derived.Maps.Views
import Derived.Outline
import Derived.OwnWalkIn
import Derived.PlainAid
import Derived.RangeFuncBox
import Derived.RangeFuncLeaves
import Derived.Shelf.Abstract
import Derived.Shelf.Bits.Mul64
import Derived.Shelf.Strconv.Itoa3
import Derived.Shelf.Strings.Count
import Derived.Shelf.Strings.OnBuilder
import Derived.Shelf.Strings.Prefix
import Derived.StillTail
import Derived.StillTailTactics
import Derived.TacticsInMore
import Derived.Test.YtbhmkcjddpniiaaGreatDoorProg
import Derived.Test.YtbhmkcjddpniiaaGreatDoorXC1
import Derived.Test.YtbhmkcjddpniiaaGreatDoorXC2
import Derived.Test.YtbhmkcjddpniiaaGreatDoorXC3
import Derived.Test.YtbhmkcjddpniiaaGreatDoorXC4
import Derived.Test.YtbhmkcjddpniiaaGreatDoorXC6
import Derived.Test.YtbhmkcjddpniiaaGreatDoorXC7
import Derived.Test.YtbhmkcjddpniiaaGreatDoorXD1
import Derived.Test.YtbhmkcjddpniiaaGreatDoorXD2
import Derived.Test.YtbhmkcjddpniiaaGreatDoorXD3
import Derived.Test.YtbhmkcjddpniiaaGreatDoorXD4
import Derived.Test.YtbhmkcjddpniiaaGreatDoorXD5
import Derived.Test.YtbhmkcjddpniiaaGreatDoorXD9
import Derived.Test.YtbhmkcjddpniiaaGreatDoorXG1
import Derived.Test.YtbhmkcjddpniiaaGreatDoorXI1
import Derived.WalkKit
import Derived.WalkLawsBesides
import Derived.WalkSpells

namespace Go.Proofs.YtbhmkcjddpniiaaGreatDoor
open Go.RowKit Go.Shelf
theorem lines_open {w : World} {B : Nat} {A : Option Addr} {c : Nat} {l : List Int} (h : IntsAt w B (.slice A l.length c) l) : l.length ≤ c ∧ c ≤ maxLen ∧ ∀ k (_ : k < l.length),∃ b off,A = some ⟨b,off,none⟩ ∧ b < B ∧ ∀ j (hj : j < l.length),w.cell? ⟨b,off + j,none⟩ = some (.int .i64 l[j]) := by
 obtain ⟨A',c',e,h2,h3,h4⟩ := h
 injection e with e1 _ e2
 subst e1 e2
 refine ⟨h2,h3,fun k hk => ?_⟩
 obtain ⟨b,off,e,hl,hc⟩ := h4 (by omega)
 exact ⟨b,off,e,hl,fun j hj => hc j _ (by simp [hj])⟩
set_option maxRecDepth 100000 in
set_option maxHeartbeats 8000000 in
theorem refSame21 (v1 v2 : Value) (s t : SetT) (w : World) (h1 : SetAt w w.heap.size v1 s) (h2 : SetAt w w.heap.size v2 t) :
  Calls Tryz.prog 29 #[v1,v2] w fun e w' => e = .returned (.bool (decide (s = t))) ∧ Below w.heap.size w w' := by
 obtain ⟨Al1,cl1,Ai1,ci1,Ab1,cb1,rfl,hL1,hI1,hB1⟩ := h1
 obtain ⟨Al2,cl2,Ai2,ci2,Ab2,cb2,rfl,hL2,hI2,hB2⟩ := h2
 have HD1 := Lib.hid ((Blk.new w 26 #[.string s.name,.int .i64 s.depth,.int .i64 s.low,.int .i64 s.high,.int .i64 s.len,.slice Al1 s.lines.length cl1,.int .i64 s.pipe,.int .i64 s.arbor,.int .i64 s.purch,.int .i64 s.most,.int .i64 s.brake,.slice Ai1 s.items.length ci1,.slice Ab1 s.bricks.length cb1]).alloc (.cells #[.string t.name,.int .i64 t.depth,.int .i64 t.low,.int .i64 t.high,.int .i64 t.len,.slice Al2 t.lines.length cl2,.int .i64 t.pipe,.int .i64 t.arbor,.int .i64 t.purch,.int .i64 t.most,.int .i64 t.brake,.slice Ai2 t.items.length ci2,.slice Ab2 t.bricks.length cb2] 26))
 have hd2 := Blk.new (w.alloc (.cells #[.string s.name,.int .i64 s.depth,.int .i64 s.low,.int .i64 s.high,.int .i64 s.len,.slice Al1 s.lines.length cl1,.int .i64 s.pipe,.int .i64 s.arbor,.int .i64 s.purch,.int .i64 s.most,.int .i64 s.brake,.slice Ai1 s.items.length ci1,.slice Ab1 s.bricks.length cb1] 26)) 26 #[.string t.name,.int .i64 t.depth,.int .i64 t.low,.int .i64 t.high,.int .i64 t.len,.slice Al2 t.lines.length cl2,.int .i64 t.pipe,.int .i64 t.arbor,.int .i64 t.purch,.int .i64 t.most,.int .i64 t.brake,.slice Ai2 t.items.length ci2,.slice Ab2 t.bricks.length cb2]
 rw [World.size_alloc] at hd2
 have HD2 := Lib.hid hd2
 have hb := ((Below.refl _ w).alloc (Nat.le_refl _) (.cells #[.string s.name,.int .i64 s.depth,.int .i64 s.low,.int .i64 s.high,.int .i64 s.len,.slice Al1 s.lines.length cl1,.int .i64 s.pipe,.int .i64 s.arbor,.int .i64 s.purch,.int .i64 s.most,.int .i64 s.brake,.slice Ai1 s.items.length ci1,.slice Ab1 s.bricks.length cb1] 26)).alloc (by simp) (.cells #[.string t.name,.int .i64 t.depth,.int .i64 t.low,.int .i64 t.high,.int .i64 t.len,.slice Al2 t.lines.length cl2,.int .i64 t.pipe,.int .i64 t.arbor,.int .i64 t.purch,.int .i64 t.most,.int .i64 t.brake,.slice Ai2 t.items.length ci2,.slice Ab2 t.bricks.length cb2] 26)
 have HB := Lib.hid hb
 have hL1 := RowAt.below hL1 hb (Nat.le_refl _)
 have hL2 := RowAt.below hL2 hb (Nat.le_refl _)
 have hI1 := hI1.below hb (Nat.le_refl _)
 have hI2 := hI2.below hb (Nat.le_refl _)
 have hB1 := hB1.below hb (Nat.le_refl _)
 have hB2 := hB2.below hb (Nat.le_refl _)
 obtain ⟨ll1,lm1,hl1⟩ := lines_open hL1
 obtain ⟨ll2,lm2,hl2⟩ := lines_open hL2
 obtain ⟨_,_,e,li1,im1,hi1⟩ := hI1.open_
 injection e with e1 _ e2
 subst e1 e2
 obtain ⟨_,_,e,lb1,bm1,hbr1⟩ := hB1.open_
 injection e with e1 _ e2
 subst e1 e2
 obtain ⟨_,_,e,li2,im2,hi2⟩ := hI2.open_
 injection e with e1 _ e2
 subst e1 e2
 obtain ⟨_,_,e,lb2,bm2,hbr2⟩ := hB2.open_
 injection e with e1 _ e2
 subst e1 e2
 have HLL1 := Lib.hid hl1
 have HLL2 := Lib.hid hl2
 have HII1 := Lib.hid hi1
 have HII2 := Lib.hid hi2
 have HBB1 := Lib.hid hbr1
 have HBB2 := Lib.hid hbr2
 unfold maxLen at lm1 lm2 im1 im2 bm1 bm2
 have HNE : Hid (s ≠ t → decide (s = t) = false) := fun h => decide_eq_false h
 have HEQ : Hid (s.name = t.name ∧ s.depth = t.depth ∧ s.low = t.low ∧ s.high = t.high ∧ s.len = t.len ∧ s.pipe = t.pipe ∧ s.arbor = t.arbor ∧ s.purch = t.purch ∧ s.most = t.most ∧ s.brake = t.brake ∧ s.lines = t.lines ∧ s.items = t.items ∧ s.bricks = t.bricks → decide (s = t) = true) := by
  rintro ⟨e0,e1,e2,e3,e4,e5,e6,e7,e8,e9,e10,e11,e12⟩
  rw [decide_eq_true_iff]
  cases s;cases t
  simp only at e0 e1 e2 e3 e4 e5 e6 e7 e8 e9 e10 e11 e12
  subst e0 e1 e2 e3 e4 e5 e6 e7 e8 e9 e10 e11 e12
  rfl
 clear hL1 hL2 hI1 hI2 hB1 hB2 hd2 hb hl1 hl2 hi1 hi2 hbr1 hbr2
 unfold setVal at *
 go_enter Tryz.func29,Tryz.ntmps29
 go_upto_region 1 with fail
 generalize (Value.agg #[.string s.name,.int .i64 s.depth,.int .i64 s.low,.int .i64 s.high,.int .i64 s.len,.slice Al1 s.lines.length cl1,.int .i64 s.pipe,.int .i64 s.arbor,.int .i64 s.purch,.int .i64 s.most,.int .i64 s.brake,.slice Ai1 s.items.length ci1,.slice Ab1 s.bricks.length cb1]) = V1
 generalize (Value.agg #[.string t.name,.int .i64 t.depth,.int .i64 t.low,.int .i64 t.high,.int .i64 t.len,.slice Al2 t.lines.length cl2,.int .i64 t.pipe,.int .i64 t.arbor,.int .i64 t.purch,.int .i64 t.most,.int .i64 t.brake,.slice Ai2 t.items.length ci2,.slice Ab2 t.bricks.length cb2]) = V2
 generalize ((w.alloc (.cells #[.string s.name,.int .i64 s.depth,.int .i64 s.low,.int .i64 s.high,.int .i64 s.len,.slice Al1 s.lines.length cl1,.int .i64 s.pipe,.int .i64 s.arbor,.int .i64 s.purch,.int .i64 s.most,.int .i64 s.brake,.slice Ai1 s.items.length ci1,.slice Ab1 s.bricks.length cb1] 26)).alloc (.cells #[.string t.name,.int .i64 t.depth,.int .i64 t.low,.int .i64 t.high,.int .i64 t.len,.slice Al2 t.lines.length cl2,.int .i64 t.pipe,.int .i64 t.arbor,.int .i64 t.purch,.int .i64 t.most,.int .i64 t.brake,.slice Ai2 t.items.length ci2,.slice Ab2 t.bricks.length cb2] 26)) = W1 at *
 have x0 := HD1.out.cell 0;have x1 := HD1.out.cell 1;have x2 := HD1.out.cell 2;have x3 := HD1.out.cell 3;have x4 := HD1.out.cell 4;have x5 := HD1.out.cell 5;have x6 := HD1.out.cell 6;have x7 := HD1.out.cell 7;have x8 := HD1.out.cell 8;have x9 := HD1.out.cell 9;have x10 := HD1.out.cell 10;have x11 := HD1.out.cell 11;have x12 := HD1.out.cell 12;simp only [List.getElem?_toArray,List.getElem?_cons_succ,List.getElem?_cons_zero] at x0 x1 x2 x3 x4 x5 x6 x7 x8 x9 x10 x11 x12
 have y0 := HD2.out.cell 0;have y1 := HD2.out.cell 1;have y2 := HD2.out.cell 2;have y3 := HD2.out.cell 3;have y4 := HD2.out.cell 4;have y5 := HD2.out.cell 5;have y6 := HD2.out.cell 6;have y7 := HD2.out.cell 7;have y8 := HD2.out.cell 8;have y9 := HD2.out.cell 9;have y10 := HD2.out.cell 10;have y11 := HD2.out.cell 11;have y12 := HD2.out.cell 12;simp only [List.getElem?_toArray,List.getElem?_cons_succ,List.getElem?_cons_zero] at y0 y1 y2 y3 y4 y5 y6 y7 y8 y9 y10 y11 y12
 by_cases n0 : s.name = t.name
 rotate_left
 ·have ht0 : (s.name.toList == t.name.toList) = false := by rw [str_beq];exact decide_eq_false n0
  have HN := Lib.hid (HNE.out fun e => n0 (by rw [e]))
  clear HNE HEQ HLL1 HLL2 HII1 HII2 HBB1 HBB2 n0
  clear x1 x2 x3 x4 x6 x7 x8 x9 x10 x5 x11 x12 y1 y2 y3 y4 y6 y7 y8 y9 y10 y5 y11 y12
  go_wp2_with fail
  go_ret
  exact ⟨ret_bool HN.out.symm,HB.out⟩
 have ht0 : (s.name.toList == t.name.toList) = true := by rw [str_beq];exact decide_eq_true n0
 by_cases n1 : s.depth = t.depth
 rotate_left
 ·have ht1 : (s.depth == t.depth) = false := beq_eq_false_iff_ne.2 n1
  have hu1 : (s.depth != t.depth) = true := bne_iff_ne.2 n1
  have HN := Lib.hid (HNE.out fun e => n1 (by rw [e]))
  clear HNE HEQ HLL1 HLL2 HII1 HII2 HBB1 HBB2 n0 n1
  clear x2 x3 x4 x6 x7 x8 x9 x10 x5 x11 x12 y2 y3 y4 y6 y7 y8 y9 y10 y5 y11 y12
  go_wp2_with fail
  go_ret
  exact ⟨ret_bool HN.out.symm,HB.out⟩
 have ht1 : (s.depth == t.depth) = true := beq_iff_eq.2 n1
 have hu1 : (s.depth != t.depth) = false := by rw [n1];exact bne_self_eq_false _
 by_cases n2 : s.low = t.low
 rotate_left
 ·have ht2 : (s.low == t.low) = false := beq_eq_false_iff_ne.2 n2
  have hu2 : (s.low != t.low) = true := bne_iff_ne.2 n2
  have HN := Lib.hid (HNE.out fun e => n2 (by rw [e]))
  clear HNE HEQ HLL1 HLL2 HII1 HII2 HBB1 HBB2 n0 n1 n2
  clear x3 x4 x6 x7 x8 x9 x10 x5 x11 x12 y3 y4 y6 y7 y8 y9 y10 y5 y11 y12
  go_wp2_with fail
  go_ret
  exact ⟨ret_bool HN.out.symm,HB.out⟩
 have ht2 : (s.low == t.low) = true := beq_iff_eq.2 n2
 have hu2 : (s.low != t.low) = false := by rw [n2];exact bne_self_eq_false _
 by_cases n3 : s.high = t.high
 rotate_left
 ·have ht3 : (s.high == t.high) = false := beq_eq_false_iff_ne.2 n3
  have hu3 : (s.high != t.high) = true := bne_iff_ne.2 n3
  have HN := Lib.hid (HNE.out fun e => n3 (by rw [e]))
  clear HNE HEQ HLL1 HLL2 HII1 HII2 HBB1 HBB2 n0 n1 n2 n3
  clear x4 x6 x7 x8 x9 x10 x5 x11 x12 y4 y6 y7 y8 y9 y10 y5 y11 y12
  go_wp2_with fail
  go_ret
  exact ⟨ret_bool HN.out.symm,HB.out⟩
 have ht3 : (s.high == t.high) = true := beq_iff_eq.2 n3
 have hu3 : (s.high != t.high) = false := by rw [n3];exact bne_self_eq_false _
 by_cases n4 : s.len = t.len
 rotate_left
 ·have ht4 : (s.len == t.len) = false := beq_eq_false_iff_ne.2 n4
  have hu4 : (s.len != t.len) = true := bne_iff_ne.2 n4
  have HN := Lib.hid (HNE.out fun e => n4 (by rw [e]))
  clear HNE HEQ HLL1 HLL2 HII1 HII2 HBB1 HBB2 n0 n1 n2 n3 n4
  clear x6 x7 x8 x9 x10 x5 x11 x12 y6 y7 y8 y9 y10 y5 y11 y12
  go_wp2_with fail
  go_ret
  exact ⟨ret_bool HN.out.symm,HB.out⟩
 have ht4 : (s.len == t.len) = true := beq_iff_eq.2 n4
 have hu4 : (s.len != t.len) = false := by rw [n4];exact bne_self_eq_false _
 by_cases n5 : s.pipe = t.pipe
 rotate_left
 ·have ht5 : (s.pipe == t.pipe) = false := beq_eq_false_iff_ne.2 n5
  have hu5 : (s.pipe != t.pipe) = true := bne_iff_ne.2 n5
  have HN := Lib.hid (HNE.out fun e => n5 (by rw [e]))
  clear HNE HEQ HLL1 HLL2 HII1 HII2 HBB1 HBB2 n0 n1 n2 n3 n4 n5
  clear x7 x8 x9 x10 x5 x11 x12 y7 y8 y9 y10 y5 y11 y12
  go_wp2_with fail
  go_ret
  exact ⟨ret_bool HN.out.symm,HB.out⟩
 have ht5 : (s.pipe == t.pipe) = true := beq_iff_eq.2 n5
 have hu5 : (s.pipe != t.pipe) = false := by rw [n5];exact bne_self_eq_false _
 by_cases n6 : s.arbor = t.arbor
 rotate_left
 ·have ht6 : (s.arbor == t.arbor) = false := beq_eq_false_iff_ne.2 n6
  have hu6 : (s.arbor != t.arbor) = true := bne_iff_ne.2 n6
  have HN := Lib.hid (HNE.out fun e => n6 (by rw [e]))
  clear HNE HEQ HLL1 HLL2 HII1 HII2 HBB1 HBB2 n0 n1 n2 n3 n4 n5 n6
  clear x8 x9 x10 x5 x11 x12 y8 y9 y10 y5 y11 y12
  go_wp2_with fail
  go_ret
  exact ⟨ret_bool HN.out.symm,HB.out⟩
 have ht6 : (s.arbor == t.arbor) = true := beq_iff_eq.2 n6
 have hu6 : (s.arbor != t.arbor) = false := by rw [n6];exact bne_self_eq_false _
 by_cases n7 : s.purch = t.purch
 rotate_left
 ·have ht7 : (s.purch == t.purch) = false := beq_eq_false_iff_ne.2 n7
  have hu7 : (s.purch != t.purch) = true := bne_iff_ne.2 n7
  have HN := Lib.hid (HNE.out fun e => n7 (by rw [e]))
  clear HNE HEQ HLL1 HLL2 HII1 HII2 HBB1 HBB2 n0 n1 n2 n3 n4 n5 n6 n7
  clear x9 x10 x5 x11 x12 y9 y10 y5 y11 y12
  go_wp2_with fail
  go_ret
  exact ⟨ret_bool HN.out.symm,HB.out⟩
 have ht7 : (s.purch == t.purch) = true := beq_iff_eq.2 n7
 have hu7 : (s.purch != t.purch) = false := by rw [n7];exact bne_self_eq_false _
 by_cases n8 : s.most = t.most
 rotate_left
 ·have ht8 : (s.most == t.most) = false := beq_eq_false_iff_ne.2 n8
  have hu8 : (s.most != t.most) = true := bne_iff_ne.2 n8
  have HN := Lib.hid (HNE.out fun e => n8 (by rw [e]))
  clear HNE HEQ HLL1 HLL2 HII1 HII2 HBB1 HBB2 n0 n1 n2 n3 n4 n5 n6 n7 n8
  clear x10 x5 x11 x12 y10 y5 y11 y12
  go_wp2_with fail
  go_ret
  exact ⟨ret_bool HN.out.symm,HB.out⟩
 have ht8 : (s.most == t.most) = true := beq_iff_eq.2 n8
 have hu8 : (s.most != t.most) = false := by rw [n8];exact bne_self_eq_false _
 by_cases n9 : s.brake = t.brake
 rotate_left
 ·have ht9 : (s.brake == t.brake) = false := beq_eq_false_iff_ne.2 n9
  have hu9 : (s.brake != t.brake) = true := bne_iff_ne.2 n9
  have HN := Lib.hid (HNE.out fun e => n9 (by rw [e]))
  clear HNE HEQ HLL1 HLL2 HII1 HII2 HBB1 HBB2 n0 n1 n2 n3 n4 n5 n6 n7 n8 n9
  clear x5 x11 x12 y5 y11 y12
  go_wp2_with fail
  go_ret
  exact ⟨ret_bool HN.out.symm,HB.out⟩
 have ht9 : (s.brake == t.brake) = true := beq_iff_eq.2 n9
 have hu9 : (s.brake != t.brake) = false := by rw [n9];exact bne_self_eq_false _
 have HNN : Hid (s.name = t.name ∧ s.depth = t.depth ∧ s.low = t.low ∧ s.high = t.high ∧ s.len = t.len ∧ s.pipe = t.pipe ∧ s.arbor = t.arbor ∧ s.purch = t.purch ∧ s.most = t.most ∧ s.brake = t.brake) := ⟨n0,n1,n2,n3,n4,n5,n6,n7,n8,n9⟩
 clear n0 n1 n2 n3 n4 n5 n6 n7 n8 n9
 go_upto_region 3 with fail
 clear x0 x1 x2 x3 x4 x6 x7 x8 x9 x10 y0 y1 y2 y3 y4 y6 y7 y8 y9 y10 ht0 ht1 ht2 ht3 ht4 ht5 ht6 ht7 ht8 ht9 hu1 hu2 hu3 hu4 hu5 hu6 hu7 hu8 hu9
 by_cases g0 : s.lines.length = t.lines.length
 rotate_left
 ·have hg0 : ((s.lines.length : Int) != t.lines.length) = true := by simp;omega
  have HN := Lib.hid (HNE.out fun e => g0 (by rw [e]))
  clear HNE HEQ HLL1 HLL2 HII1 HII2 HBB1 HBB2 HNN
  go_wp2_with fail
  go_ret
  exact ⟨ret_bool HN.out.symm,HB.out⟩
 have hg0 : ((s.lines.length : Int) != t.lines.length) = false := by simp [g0]
 by_cases g1 : s.items.length = t.items.length
 rotate_left
 ·have hg1 : ((s.items.length : Int) != t.items.length) = true := by simp;omega
  have HN := Lib.hid (HNE.out fun e => g1 (by rw [e]))
  clear HNE HEQ HLL1 HLL2 HII1 HII2 HBB1 HBB2 HNN
  go_wp2_with fail
  go_ret
  exact ⟨ret_bool HN.out.symm,HB.out⟩
 have hg1 : ((s.items.length : Int) != t.items.length) = false := by simp [g1]
 by_cases g2 : s.bricks.length = t.bricks.length
 rotate_left
 ·have hg2 : ((s.bricks.length : Int) != t.bricks.length) = true := by simp;omega
  have HN := Lib.hid (HNE.out fun e => g2 (by rw [e]))
  clear HNE HEQ HLL1 HLL2 HII1 HII2 HBB1 HBB2 HNN
  go_wp2_with fail
  go_ret
  exact ⟨ret_bool HN.out.symm,HB.out⟩
 have hg2 : ((s.bricks.length : Int) != t.bricks.length) = false := by simp [g2]
 have HG0 := Lib.hid g0
 have HG1 := Lib.hid g1
 have HG2 := Lib.hid g2
 go_upto_region 5 with fail
 clear x5 x11 x12 y5 y11 y12 hg0 hg1 hg2
 go_wp2_with fail
 go_loopw [5] (fun z wr => ∃ j : Nat,j ≤ s.lines.length ∧ z = .int .i64 j ∧ s.lines.take j = t.lines.take j ∧ ∃ n,wr = W1.drewN n) (fun z _ => s.lines.length - (intOf z).toNat)
 case atStart => first | exact ⟨0,Nat.zero_le _,rfl,by simp,_,rfl⟩ | exact ⟨0,Nat.zero_le _,rfl,by simp,0,rfl⟩
 case round =>
  obtain ⟨j,hj,rfl,hnm,n,rfl⟩ := hrel
  have Hnm := Lib.hid hnm
  clear hnm
  have XB := HD1.out
  have YB := HD2.out
  have x5 := XB.cell 5;simp only [List.getElem?_toArray,List.getElem?_cons_succ,List.getElem?_cons_zero] at x5
  have y5 := YB.cell 5;simp only [List.getElem?_toArray,List.getElem?_cons_succ,List.getElem?_cons_zero] at y5
  clear XB YB
  by_cases hlt : j < s.lines.length
  ·have hlt2 : j < t.lines.length := by omega
   obtain ⟨b1,off1,e1,hb1,hcell1⟩ := HLL1.out j hlt
   rw [e1] at x5
   obtain ⟨b2,off2,e2,hb2,hcell2⟩ := HLL2.out j hlt2
   rw [e2] at y5
   have HT1 := Lib.hid (take_snoc s.lines j hlt)
   have HT2 := Lib.hid (take_snoc t.lines j hlt2)
   have HNQ : Hid (s.lines[j] ≠ t.lines[j] → decide (s = t) = false) := fun h => HNE.out fun e => h (by subst e;rfl)
   have h1_0 := hcell1 j hlt
   have h2_0 := hcell2 j hlt2
   clear hcell1 hcell2
   generalize s.lines[j] = a at *
   generalize t.lines[j] = b at *
   by_cases hq : a = b
   ·subst hq
    have ht : (a != a) = false := bne_self_eq_false _
    go_wp2
    go_quiet (fail)
    go_wp2
    go_roundw
    case rel => exact ⟨j + 1,by omega,by go_num,by rw [HT1.out,HT2.out,Hnm.out],_,rfl⟩
    case measure => simp [intOf];omega
   ·have HQ := Lib.hid (HNQ.out hq)
    clear HNQ HT1 HT2 HNE HEQ HLL1 HLL2 HII1 HII2 HBB1 HBB2 HNN Hnm
    have ht : (a != b) = true := bne_iff_ne.2 hq
    go_wp2
    go_quiet (fail)
    go_wp2
    go_ret
    exact ⟨ret_bool HQ.out.symm,below_drewN (below_drewN HB.out _) _⟩
  ·have hje : j = s.lines.length := by omega
   subst hje
   have HM0 : Hid (s.lines = t.lines) := by have := Hnm.out;rw [List.take_length,HG0.out,List.take_length] at this;exact this
   clear Hnm
   have x11 := HD1.out.cell 11;simp only [List.getElem?_toArray,List.getElem?_cons_succ,List.getElem?_cons_zero] at x11
   have y11 := HD2.out.cell 11;simp only [List.getElem?_toArray,List.getElem?_cons_succ,List.getElem?_cons_zero] at y11
   go_wp2_with fail
   clear x5 y5
   go_loopw [6] (fun z wr => ∃ j : Nat,j ≤ s.items.length ∧ z = .int .i64 j ∧ s.items.take j = t.items.take j ∧ ∃ n,wr = W1.drewN n) (fun z _ => s.items.length - (intOf z).toNat)
   case atStart => first | exact ⟨0,Nat.zero_le _,rfl,by simp,_,rfl⟩ | exact ⟨0,Nat.zero_le _,rfl,by simp,0,rfl⟩
   case round =>
    obtain ⟨j,hj,rfl,hnm,n,rfl⟩ := hrel
    have Hnm := Lib.hid hnm
    clear hnm
    have XB := HD1.out
    have YB := HD2.out
    have x11 := XB.cell 11;simp only [List.getElem?_toArray,List.getElem?_cons_succ,List.getElem?_cons_zero] at x11
    have y11 := YB.cell 11;simp only [List.getElem?_toArray,List.getElem?_cons_succ,List.getElem?_cons_zero] at y11
    clear XB YB
    by_cases hlt : j < s.items.length
    ·have hlt2 : j < t.items.length := by omega
     obtain ⟨b1,off1,e1,hb1,hcell1⟩ := HII1.out j hlt
     rw [e1] at x11
     obtain ⟨b2,off2,e2,hb2,hcell2⟩ := HII2.out j hlt2
     rw [e2] at y11
     have HT1 := Lib.hid (take_snoc s.items j hlt)
     have HT2 := Lib.hid (take_snoc t.items j hlt2)
     have HNQ : Hid (s.items[j] ≠ t.items[j] → decide (s = t) = false) := fun h => HNE.out fun e => h (by subst e;rfl)
     obtain ⟨h1_0,h1_1,h1_2,h1_3,h1_4,h1_5,h1_6⟩ := hcell1 j hlt
     obtain ⟨h2_0,h2_1,h2_2,h2_3,h2_4,h2_5,h2_6⟩ := hcell2 j hlt2
     clear hcell1 hcell2
     generalize s.items[j] = a at *
     generalize t.items[j] = b at *
     by_cases hq : a = b
     ·subst hq
      have hv0 : (a.name.toList == a.name.toList) = true := beq_self_eq_true _
      have hv1 : (a.pos == a.pos) = true := beq_self_eq_true _
      have hv2 : (a.width == a.width) = true := beq_self_eq_true _
      have hv3 : (a.wt == a.wt) = true := beq_self_eq_true _
      have hv4 : (a.hang == a.hang) = true := beq_self_eq_true _
      have hv5 : (a.front == a.front) = true := beq_self_eq_true _
      have hv6 : (a.back == a.back) = true := beq_self_eq_true _
      go_wp2
      go_quiet (fail)
      go_wp2
      go_roundw
      case rel => exact ⟨j + 1,by omega,by go_num,by rw [HT1.out,HT2.out,Hnm.out],_,rfl⟩
      case measure => simp [intOf];omega
     ·have HQ := Lib.hid (HNQ.out hq)
      clear HNQ HT1 HT2 HNE HEQ HLL1 HLL2 HII1 HII2 HBB1 HBB2 HNN Hnm
      by_cases n0 : a.name = b.name
      rotate_left
      ·have hv0 : (a.name.toList == b.name.toList) = false := by rw [str_beq];exact decide_eq_false n0
       clear hq n0
       go_wp2
       go_quiet (fail)
       go_wp2
       go_ret
       exact ⟨ret_bool HQ.out.symm,below_drewN (below_drewN HB.out _) _⟩
      have hv0 : (a.name.toList == b.name.toList) = true := by rw [str_beq];exact decide_eq_true n0
      by_cases n1 : a.pos = b.pos
      rotate_left
      ·have hv1 : (a.pos == b.pos) = false := beq_eq_false_iff_ne.2 n1
       clear hq n0 n1
       go_wp2
       go_quiet (fail)
       go_wp2
       go_ret
       exact ⟨ret_bool HQ.out.symm,below_drewN (below_drewN HB.out _) _⟩
      have hv1 : (a.pos == b.pos) = true := beq_iff_eq.2 n1
      by_cases n2 : a.width = b.width
      rotate_left
      ·have hv2 : (a.width == b.width) = false := beq_eq_false_iff_ne.2 n2
       clear hq n0 n1 n2
       go_wp2
       go_quiet (fail)
       go_wp2
       go_ret
       exact ⟨ret_bool HQ.out.symm,below_drewN (below_drewN HB.out _) _⟩
      have hv2 : (a.width == b.width) = true := beq_iff_eq.2 n2
      by_cases n3 : a.wt = b.wt
      rotate_left
      ·have hv3 : (a.wt == b.wt) = false := beq_eq_false_iff_ne.2 n3
       clear hq n0 n1 n2 n3
       go_wp2
       go_quiet (fail)
       go_wp2
       go_ret
       exact ⟨ret_bool HQ.out.symm,below_drewN (below_drewN HB.out _) _⟩
      have hv3 : (a.wt == b.wt) = true := beq_iff_eq.2 n3
      by_cases n4 : a.hang = b.hang
      rotate_left
      ·have hv4 : (a.hang == b.hang) = false := beq_eq_false_iff_ne.2 n4
       clear hq n0 n1 n2 n3 n4
       go_wp2
       go_quiet (fail)
       go_wp2
       go_ret
       exact ⟨ret_bool HQ.out.symm,below_drewN (below_drewN HB.out _) _⟩
      have hv4 : (a.hang == b.hang) = true := beq_iff_eq.2 n4
      by_cases n5 : a.front = b.front
      rotate_left
      ·have hv5 : (a.front == b.front) = false := beq_eq_false_iff_ne.2 n5
       clear hq n0 n1 n2 n3 n4 n5
       go_wp2
       go_quiet (fail)
       go_wp2
       go_ret
       exact ⟨ret_bool HQ.out.symm,below_drewN (below_drewN HB.out _) _⟩
      have hv5 : (a.front == b.front) = true := beq_iff_eq.2 n5
      by_cases n6 : a.back = b.back
      rotate_left
      ·have hv6 : (a.back == b.back) = false := beq_eq_false_iff_ne.2 n6
       clear hq n0 n1 n2 n3 n4 n5 n6
       go_wp2
       go_quiet (fail)
       go_wp2
       go_ret
       exact ⟨ret_bool HQ.out.symm,below_drewN (below_drewN HB.out _) _⟩
      have hv6 : (a.back == b.back) = true := beq_iff_eq.2 n6
      exact absurd (by cases a;cases b;simp only at n0 n1 n2 n3 n4 n5 n6;subst n0 n1 n2 n3 n4 n5 n6;rfl) hq
    ·have hje : j = s.items.length := by omega
     subst hje
     have HM1 : Hid (s.items = t.items) := by have := Hnm.out;rw [List.take_length,HG1.out,List.take_length] at this;exact this
     clear Hnm
     have x12 := HD1.out.cell 12;simp only [List.getElem?_toArray,List.getElem?_cons_succ,List.getElem?_cons_zero] at x12
     have y12 := HD2.out.cell 12;simp only [List.getElem?_toArray,List.getElem?_cons_succ,List.getElem?_cons_zero] at y12
     go_wp2_with fail
     clear x11 y11
     go_loopw [7] (fun z wr => ∃ j : Nat,j ≤ s.bricks.length ∧ z = .int .i64 j ∧ s.bricks.take j = t.bricks.take j ∧ ∃ n,wr = W1.drewN n) (fun z _ => s.bricks.length - (intOf z).toNat)
     case atStart => first | exact ⟨0,Nat.zero_le _,rfl,by simp,_,rfl⟩ | exact ⟨0,Nat.zero_le _,rfl,by simp,0,rfl⟩
     case round =>
      obtain ⟨j,hj,rfl,hnm,n,rfl⟩ := hrel
      have Hnm := Lib.hid hnm
      clear hnm
      have XB := HD1.out
      have YB := HD2.out
      have x12 := XB.cell 12;simp only [List.getElem?_toArray,List.getElem?_cons_succ,List.getElem?_cons_zero] at x12
      have y12 := YB.cell 12;simp only [List.getElem?_toArray,List.getElem?_cons_succ,List.getElem?_cons_zero] at y12
      clear XB YB
      by_cases hlt : j < s.bricks.length
      ·have hlt2 : j < t.bricks.length := by omega
       obtain ⟨b1,off1,e1,hb1,hcell1⟩ := HBB1.out j hlt
       rw [e1] at x12
       obtain ⟨b2,off2,e2,hb2,hcell2⟩ := HBB2.out j hlt2
       rw [e2] at y12
       have HT1 := Lib.hid (take_snoc s.bricks j hlt)
       have HT2 := Lib.hid (take_snoc t.bricks j hlt2)
       have HNQ : Hid (s.bricks[j] ≠ t.bricks[j] → decide (s = t) = false) := fun h => HNE.out fun e => h (by subst e;rfl)
       obtain ⟨h1_0,h1_1,h1_2⟩ := hcell1 j hlt
       obtain ⟨h2_0,h2_1,h2_2⟩ := hcell2 j hlt2
       clear hcell1 hcell2
       generalize s.bricks[j] = a at *
       generalize t.bricks[j] = b at *
       by_cases hq : a = b
       ·subst hq
        have hv0 : (a.name.toList == a.name.toList) = true := beq_self_eq_true _
        have hv1 : (a.wt == a.wt) = true := beq_self_eq_true _
        have hv2 : (a.cnt == a.cnt) = true := beq_self_eq_true _
        go_wp2
        go_quiet (fail)
        go_wp2
        go_roundw
        case rel => exact ⟨j + 1,by omega,by go_num,by rw [HT1.out,HT2.out,Hnm.out],_,rfl⟩
        case measure => simp [intOf];omega
       ·have HQ := Lib.hid (HNQ.out hq)
        clear HNQ HT1 HT2 HNE HEQ HLL1 HLL2 HII1 HII2 HBB1 HBB2 HNN Hnm
        by_cases n0 : a.name = b.name
        rotate_left
        ·have hv0 : (a.name.toList == b.name.toList) = false := by rw [str_beq];exact decide_eq_false n0
         clear hq n0
         go_wp2
         go_quiet (fail)
         go_wp2
         go_ret
         exact ⟨ret_bool HQ.out.symm,below_drewN (below_drewN HB.out _) _⟩
        have hv0 : (a.name.toList == b.name.toList) = true := by rw [str_beq];exact decide_eq_true n0
        by_cases n1 : a.wt = b.wt
        rotate_left
        ·have hv1 : (a.wt == b.wt) = false := beq_eq_false_iff_ne.2 n1
         clear hq n0 n1
         go_wp2
         go_quiet (fail)
         go_wp2
         go_ret
         exact ⟨ret_bool HQ.out.symm,below_drewN (below_drewN HB.out _) _⟩
        have hv1 : (a.wt == b.wt) = true := beq_iff_eq.2 n1
        by_cases n2 : a.cnt = b.cnt
        rotate_left
        ·have hv2 : (a.cnt == b.cnt) = false := beq_eq_false_iff_ne.2 n2
         clear hq n0 n1 n2
         go_wp2
         go_quiet (fail)
         go_wp2
         go_ret
         exact ⟨ret_bool HQ.out.symm,below_drewN (below_drewN HB.out _) _⟩
        have hv2 : (a.cnt == b.cnt) = true := beq_iff_eq.2 n2
        exact absurd (by cases a;cases b;simp only at n0 n1 n2;subst n0 n1 n2;rfl) hq
      ·have hje : j = s.bricks.length := by omega
       subst hje
       have HM2 : Hid (s.bricks = t.bricks) := by have := Hnm.out;rw [List.take_length,HG2.out,List.take_length] at this;exact this
       clear Hnm
       have HE : Hid (decide (s = t) = true) := by
        obtain ⟨n0,n1,n2,n3,n4,n5,n6,n7,n8,n9⟩ := HNN.out
        exact HEQ.out ⟨n0,n1,n2,n3,n4,n5,n6,n7,n8,n9,HM0.out,HM1.out,HM2.out⟩
       clear HEQ HNE HNN HM0 HM1 HM2
       go_wp2
       go_ret
       exact ⟨ret_bool HE.out.symm,below_drewN HB.out _⟩
end Go.Proofs.YtbhmkcjddpniiaaGreatDoor

namespace Go.Proofs.YtbhmkcjddpniiaaGreatDoor
open Go.RowKit Go.Shelf
theorem set_keeps {w : World} {g i : Nat} {cs : Array Value} {u : Value} {B t s n : Nat} {v : Value} {xs : List Value} (hd : Blk w g 26 cs) (h : w.ownsRow B t s v n xs) (ht : 26 ≠ t) : (w.setCell ⟨g,i,none⟩ u).ownsRow B t s v n xs :=
 h.kept (setG_grownB w g i u) (own_not h hd ht)
theorem fresh_grown {W w1 : World} {e : TypeId} (hg : (W.alloc (.cells #[] e)).grownBy w1 (Value.slice (some ⟨W.heap.size,0,none⟩) 0 0).ownBlock) : Below W.heap.size W w1 :=
 ((Below.refl W.heap.size W).alloc (Nat.le_refl _) _).grown hg (by simp) (fun k hk => by simp [Value.ownBlock] at hk;omega)
set_option maxRecDepth 100000 in
set_option maxHeartbeats 4000000 in
theorem refCopy21 (v : Value) (s : SetT) (w : World) (hv : SetAt w w.heap.size v s) (h1 : s.lines.length ≤ 1000) (h2 : s.items.length ≤ 1000) (h3 : s.bricks.length ≤ 1000) : Calls Tryz.prog 26 #[v] w (CopyPost s w) := by
  obtain ⟨Al, cl, Ai, ci, Ab, cb, rfl, hL, hI, hB⟩ := hv
  have HL := Lib.hid hL
  have HI := Lib.hid hI
  have HK := Lib.hid hB
  clear hL hI hB
  unfold setVal at *
  have hd0 := (Blk.new w 26 #[.string s.name, .int .i64 s.depth, .int .i64 s.low, .int .i64 s.high, .int .i64 s.len, .slice Al s.lines.length cl, .int .i64 s.pipe, .int .i64 s.arbor, .int .i64 s.purch, .int .i64 s.most, .int .i64 s.brake, .slice Ai s.items.length ci, .slice Ab s.bricks.length cb]).alloc (.cells #[.string ⟨#[]⟩, .int .i64 0, .int .i64 0, .int .i64 0, .int .i64 0, .slice none 0 0, .int .i64 0, .int .i64 0, .int .i64 0, .int .i64 0, .int .i64 0, .slice none 0 0, .slice none 0 0] 26)
  have hd1 := Blk.new (w.alloc (.cells #[.string s.name, .int .i64 s.depth, .int .i64 s.low, .int .i64 s.high, .int .i64 s.len, .slice Al s.lines.length cl, .int .i64 s.pipe, .int .i64 s.arbor, .int .i64 s.purch, .int .i64 s.most, .int .i64 s.brake, .slice Ai s.items.length ci, .slice Ab s.bricks.length cb] 26)) 26 #[.string ⟨#[]⟩, .int .i64 0, .int .i64 0, .int .i64 0, .int .i64 0, .slice none 0 0, .int .i64 0, .int .i64 0, .int .i64 0, .int .i64 0, .int .i64 0, .slice none 0 0, .slice none 0 0]
  rw [World.size_alloc] at hd1
  have hB2 := ((Below.refl _ w).alloc (Nat.le_refl _) (.cells #[.string s.name, .int .i64 s.depth, .int .i64 s.low, .int .i64 s.high, .int .i64 s.len, .slice Al s.lines.length cl, .int .i64 s.pipe, .int .i64 s.arbor, .int .i64 s.purch, .int .i64 s.most, .int .i64 s.brake, .slice Ai s.items.length ci, .slice Ab s.bricks.length cb] 26)).alloc (by simp) (.cells #[.string ⟨#[]⟩, .int .i64 0, .int .i64 0, .int .i64 0, .int .i64 0, .slice none 0 0, .int .i64 0, .int .i64 0, .int .i64 0, .int .i64 0, .int .i64 0, .slice none 0 0, .slice none 0 0] 26)
  go_enter Tryz.func26, Tryz.ntmps26
  go_upto_region 1 with fail
  generalize (w.alloc (.cells #[.string s.name, .int .i64 s.depth, .int .i64 s.low, .int .i64 s.high, .int .i64 s.len, .slice Al s.lines.length cl, .int .i64 s.pipe, .int .i64 s.arbor, .int .i64 s.purch, .int .i64 s.most, .int .i64 s.brake, .slice Ai s.items.length ci, .slice Ab s.bricks.length cb] 26)).alloc (.cells #[.string ⟨#[]⟩, .int .i64 0, .int .i64 0, .int .i64 0, .int .i64 0, .slice none 0 0, .int .i64 0, .int .i64 0, .int .i64 0, .int .i64 0, .int .i64 0, .slice none 0 0, .slice none 0 0] 26) = W2 at *
  have HD0 := Lib.hid hd0
  have HD1 := Lib.hid hd1
  have HB2 := Lib.hid hB2
  clear hd0 hd1 hB2
  have y := (HD0.out.alloc (.cells #[] 3)).cell 5
  simp only [List.getElem?_toArray, List.getElem?_cons_succ, List.getElem?_cons_zero] at y
  have hba := (Below.refl W2.heap.size W2).alloc (Nat.le_refl _) (.cells #[] 3)
  have HSr := Lib.hid (RowAt.below HL.out (HB2.out.trans (hba.mono HB2.out.size)) (Nat.le_refl _))
  have hsz := HB2.out.size
  clear hba
  go_upto_region 2 with (at_builtin; refine wpList_appendAll _ rfl (.tmp 3) (.tmp 5) 22 rfl w.heap.size 3 info_int Tryz.underlying22 rfl (by decide) (.slice (some ⟨W2.heap.size, 0, none⟩) 0 0) 0 [] rfl (World.ownsRow_made W2 #[] 0 hsz (Nat.zero_le _) rfl) w.heap.size s.lines.length (.slice Al s.lines.length cl) (s.lines.map (Value.int .i64)) rfl HSr.out (by simp) (by simp [Value.oneCell']) (by unfold maxLen; omega) (by omega) (by simp; omega) ?_; intro v1 w1 hown1 hg1 hat1; rw [Nat.zero_add, List.nil_append] at hown1; obtain ⟨A1, k1, rfl⟩ := own_formB hown1; have hb1 := fresh_grown hg1; have HO1 := Lib.hid hown1; have HDa := Lib.hid (HD0.out.below hb1 HD0.out.lt); have HDb := Lib.hid (HD1.out.below hb1 HD1.out.lt); have HBb := Lib.hid (HB2.out.trans (hb1.mono HB2.out.size)); have y := HDa.out.cell 5; have fy := HDa.out.frozen 5; simp only [List.getElem?_toArray, List.getElem?_cons_succ, List.getElem?_cons_zero] at y; clear hown1 hg1 hat1 hb1)
  have HD0 : Hid (Blk (w1.setCell ⟨w.heap.size, 5, none⟩ (.slice A1 s.lines.length k1)) w.heap.size 26 #[.string s.name, .int .i64 s.depth, .int .i64 s.low, .int .i64 s.high, .int .i64 s.len, .slice A1 s.lines.length k1, .int .i64 s.pipe, .int .i64 s.arbor, .int .i64 s.purch, .int .i64 s.most, .int .i64 s.brake, .slice Ai s.items.length ci, .slice Ab s.bricks.length cb]) := HDa.out.set_ 5 (.slice A1 s.lines.length k1)
  have HD1 := Lib.hid (HDb.out.far (p := ⟨w.heap.size, 5, none⟩) (by show w.heap.size + 1 ≠ w.heap.size; omega) (.slice A1 s.lines.length k1))
  have HB2 := Lib.hid (HBb.out.grown (setG_grownB w1 w.heap.size 5 (.slice A1 s.lines.length k1)) HBb.out.size (fun k e => Nat.le_of_eq (Option.some.inj e)))
  have HO1 := Lib.hid (set_keeps (i := 5) (u := .slice A1 s.lines.length k1) HDa.out HO1.out (by decide))
  clear y fy HSr HDa HDb HBb hsz 
  generalize (w1.setCell ⟨w.heap.size, 5, none⟩ (.slice A1 s.lines.length k1)) = W3 at *
  have y := (HD0.out.alloc (.cells #[] 47)).cell 11
  simp only [List.getElem?_toArray, List.getElem?_cons_succ, List.getElem?_cons_zero] at y
  have hba := (Below.refl W3.heap.size W3).alloc (Nat.le_refl _) (.cells #[] 47)
  have HSr := Lib.hid (ItemsAt.below HI.out (HB2.out.trans (hba.mono HB2.out.size)) (Nat.le_refl _))
  have hsz := HB2.out.size
  clear hba
  go_upto_region 3 with (at_builtin; refine wpList_appendAll _ rfl (.tmp 8) (.tmp 10) 23 rfl w.heap.size 47 info_item Tryz.underlying23 rfl (by decide) (.slice (some ⟨W3.heap.size, 0, none⟩) 0 0) 0 [] rfl (World.ownsRow_made W3 #[] 0 hsz (Nat.zero_le _) rfl) w.heap.size s.items.length (.slice Ai s.items.length ci) (s.items.flatMap ItemT.cells) rfl HSr.out (flatLen ItemT.cells 7 (fun _ => rfl) s.items) (flatOneItem s.items) (by unfold maxLen; omega) (by omega) (by simp; omega) ?_; intro v1 w2 hown1 hg1 hat1; rw [Nat.zero_add, List.nil_append] at hown1; obtain ⟨A2, k2, rfl⟩ := own_formB hown1; have hb1 := fresh_grown hg1; have HO2 := Lib.hid hown1; have HDa := Lib.hid (HD0.out.below hb1 HD0.out.lt); have HDb := Lib.hid (HD1.out.below hb1 HD1.out.lt); have HBb := Lib.hid (HB2.out.trans (hb1.mono HB2.out.size)); have HP1 := Lib.hid (own_belowL HO1.out hb1); have y := HDa.out.cell 11; have fy := HDa.out.frozen 11; simp only [List.getElem?_toArray, List.getElem?_cons_succ, List.getElem?_cons_zero] at y; clear hown1 hg1 hat1 hb1)
  have HD0 : Hid (Blk (w2.setCell ⟨w.heap.size, 11, none⟩ (.slice A2 s.items.length k2)) w.heap.size 26 #[.string s.name, .int .i64 s.depth, .int .i64 s.low, .int .i64 s.high, .int .i64 s.len, .slice A1 s.lines.length k1, .int .i64 s.pipe, .int .i64 s.arbor, .int .i64 s.purch, .int .i64 s.most, .int .i64 s.brake, .slice A2 s.items.length k2, .slice Ab s.bricks.length cb]) := HDa.out.set_ 11 (.slice A2 s.items.length k2)
  have HD1 := Lib.hid (HDb.out.far (p := ⟨w.heap.size, 11, none⟩) (by show w.heap.size + 1 ≠ w.heap.size; omega) (.slice A2 s.items.length k2))
  have HB2 := Lib.hid (HBb.out.grown (setG_grownB w2 w.heap.size 11 (.slice A2 s.items.length k2)) HBb.out.size (fun k e => Nat.le_of_eq (Option.some.inj e)))
  have HO2 := Lib.hid (set_keeps (i := 11) (u := .slice A2 s.items.length k2) HDa.out HO2.out (by decide))
  have HO1 := Lib.hid (set_keeps (i := 11) (u := .slice A2 s.items.length k2) HDa.out HP1.out (by decide))
  clear y fy HSr HDa HDb HBb hsz HP1
  generalize (w2.setCell ⟨w.heap.size, 11, none⟩ (.slice A2 s.items.length k2)) = W4 at *
  have y := (HD0.out.alloc (.cells #[] 49)).cell 12
  simp only [List.getElem?_toArray, List.getElem?_cons_succ, List.getElem?_cons_zero] at y
  have hba := (Below.refl W4.heap.size W4).alloc (Nat.le_refl _) (.cells #[] 49)
  have HSr := Lib.hid (BricksAt.below HK.out (HB2.out.trans (hba.mono HB2.out.size)) (Nat.le_refl _))
  have hsz := HB2.out.size
  clear hba
  go_upto_region 4 with (at_builtin; refine wpList_appendAll _ rfl (.tmp 13) (.tmp 15) 24 rfl w.heap.size 49 info_brick Tryz.underlying24 rfl (by decide) (.slice (some ⟨W4.heap.size, 0, none⟩) 0 0) 0 [] rfl (World.ownsRow_made W4 #[] 0 hsz (Nat.zero_le _) rfl) w.heap.size s.bricks.length (.slice Ab s.bricks.length cb) (s.bricks.flatMap BrickT.cells) rfl HSr.out (flatLen BrickT.cells 3 (fun _ => rfl) s.bricks) (flatOneBrick s.bricks) (by unfold maxLen; omega) (by omega) (by simp; omega) ?_; intro v1 w3 hown1 hg1 hat1; rw [Nat.zero_add, List.nil_append] at hown1; obtain ⟨A3, k3, rfl⟩ := own_formB hown1; have hb1 := fresh_grown hg1; have HO3 := Lib.hid hown1; have HDa := Lib.hid (HD0.out.below hb1 HD0.out.lt); have HDb := Lib.hid (HD1.out.below hb1 HD1.out.lt); have HBb := Lib.hid (HB2.out.trans (hb1.mono HB2.out.size)); have HP1 := Lib.hid (own_belowL HO1.out hb1); have HP2 := Lib.hid (own_belowL HO2.out hb1); have y := HDa.out.cell 12; have fy := HDa.out.frozen 12; simp only [List.getElem?_toArray, List.getElem?_cons_succ, List.getElem?_cons_zero] at y; clear hown1 hg1 hat1 hb1)
  have HD0 : Hid (Blk (w3.setCell ⟨w.heap.size, 12, none⟩ (.slice A3 s.bricks.length k3)) w.heap.size 26 #[.string s.name, .int .i64 s.depth, .int .i64 s.low, .int .i64 s.high, .int .i64 s.len, .slice A1 s.lines.length k1, .int .i64 s.pipe, .int .i64 s.arbor, .int .i64 s.purch, .int .i64 s.most, .int .i64 s.brake, .slice A2 s.items.length k2, .slice A3 s.bricks.length k3]) := HDa.out.set_ 12 (.slice A3 s.bricks.length k3)
  have HD1 := Lib.hid (HDb.out.far (p := ⟨w.heap.size, 12, none⟩) (by show w.heap.size + 1 ≠ w.heap.size; omega) (.slice A3 s.bricks.length k3))
  have HB2 := Lib.hid (HBb.out.grown (setG_grownB w3 w.heap.size 12 (.slice A3 s.bricks.length k3)) HBb.out.size (fun k e => Nat.le_of_eq (Option.some.inj e)))
  have HO3 := Lib.hid (set_keeps (i := 12) (u := .slice A3 s.bricks.length k3) HDa.out HO3.out (by decide))
  have HO1 := Lib.hid (set_keeps (i := 12) (u := .slice A3 s.bricks.length k3) HDa.out HP1.out (by decide))
  have HO2 := Lib.hid (set_keeps (i := 12) (u := .slice A3 s.bricks.length k3) HDa.out HP2.out (by decide))
  clear y fy HSr HDa HDb HBb hsz HP1 HP2
  generalize (w3.setCell ⟨w.heap.size, 12, none⟩ (.slice A3 s.bricks.length k3)) = W5 at *
  have ER := Lib.hid (blk_range HD0.out)
  have HTh := Lib.hid (blk_there HD1.out rfl)
  have HR := Lib.hid (World.rangeAt_setCells_same W5 (w.heap.size + 1) 0 [.string s.name, .int .i64 s.depth, .int .i64 s.low, .int .i64 s.high, .int .i64 s.len, .slice A1 s.lines.length k1, .int .i64 s.pipe, .int .i64 s.arbor, .int .i64 s.purch, .int .i64 s.most, .int .i64 s.brake, .slice A2 s.items.length k2, .slice A3 s.bricks.length k3] (blk_there HD1.out rfl))
  refine wp_region_lit ?_
  refine wpList_load_mid rfl 26 (.tmp 1) rfl w.heap.size 0 rfl [.string s.name, .int .i64 s.depth, .int .i64 s.low, .int .i64 s.high, .int .i64 s.len, .slice A1 s.lines.length k1, .int .i64 s.pipe, .int .i64 s.arbor, .int .i64 s.purch, .int .i64 s.most, .int .i64 s.brake, .slice A2 s.items.length k2, .slice A3 s.bricks.length k3] _ ER.out Tryz.underlying26 rfl (by kernel_rfl) ?_
  refine wpList_store_mid rfl 26 (.tmp 2) (.tmp 18) rfl (w.heap.size + 1) 0 #[.string s.name, .int .i64 s.depth, .int .i64 s.low, .int .i64 s.high, .int .i64 s.len, .slice A1 s.lines.length k1, .int .i64 s.pipe, .int .i64 s.arbor, .int .i64 s.purch, .int .i64 s.most, .int .i64 s.brake, .slice A2 s.items.length k2, .slice A3 s.bricks.length k3] rfl rfl HTh.out (by kernel_rfl) (by simp [Value.oneCell']) ?_
  refine wpList_nil ?_
  simp only [Act.put, List.setIfInBounds_toArray, List.set_cons_zero, List.set_cons_succ]
  clear ER HTh
  have hG9 := grown_setCells (w.heap.size + 1) [.string s.name, .int .i64 s.depth, .int .i64 s.low, .int .i64 s.high, .int .i64 s.len, .slice A1 s.lines.length k1, .int .i64 s.pipe, .int .i64 s.arbor, .int .i64 s.purch, .int .i64 s.most, .int .i64 s.brake, .slice A2 s.items.length k2, .slice A3 s.bricks.length k3] 0 W5
  have hB9 := HB2.out.grown hG9 HB2.out.size (fun k e => by obtain rfl : w.heap.size + 1 = k := by simpa using e
                                                            omega)
  have r1 := HO1.out.kept hG9 (own_not HO1.out HD1.out (by decide))
  have r2 := HO2.out.kept hG9 (own_not HO2.out HD1.out (by decide))
  have r3 := HO3.out.kept hG9 (own_not HO3.out HD1.out (by decide))
  have p0 := HR.out 0 _ rfl
  have p1 := HR.out 1 _ rfl
  have p2 := HR.out 2 _ rfl
  have p3 := HR.out 3 _ rfl
  have p4 := HR.out 4 _ rfl
  have p5 := HR.out 5 _ rfl
  have p6 := HR.out 6 _ rfl
  have p7 := HR.out 7 _ rfl
  have p8 := HR.out 8 _ rfl
  have p9 := HR.out 9 _ rfl
  have p10 := HR.out 10 _ rfl
  have p11 := HR.out 11 _ rfl
  have p12 := HR.out 12 _ rfl
  simp only [Nat.zero_add] at p0 p1 p2 p3 p4 p5 p6 p7 p8 p9 p10 p11 p12
  generalize World.setCells W5 (w.heap.size + 1) 0 [.string s.name, .int .i64 s.depth, .int .i64 s.low, .int .i64 s.high, .int .i64 s.len, .slice A1 s.lines.length k1, .int .i64 s.pipe, .int .i64 s.arbor, .int .i64 s.purch, .int .i64 s.most, .int .i64 s.brake, .slice A2 s.items.length k2, .slice A3 s.bricks.length k3] = W9 at *
  clear hG9 HR HO1 HO2 HO3 HD0 HD1 HB2
  go_wp2_with fail
  refine bodyPost_ret (v := .agg #[.string s.name, .int .i64 s.depth, .int .i64 s.low, .int .i64 s.high, .int .i64 s.len, .slice A1 s.lines.length k1, .int .i64 s.pipe, .int .i64 s.arbor, .int .i64 s.purch, .int .i64 s.most, .int .i64 s.brake, .slice A2 s.items.length k2, .slice A3 s.bricks.length k3]) (by simp [results, Tryz.results26, go_sem, p0, p1, p2, p3, p4, p5, p6, p7, p8, p9, p10, p11, p12]) rfl ?_
  exact ⟨hB9, A1, k1, A2, k2, A3, k3, rfl, r1, r2, r3⟩
end Go.Proofs.YtbhmkcjddpniiaaGreatDoor

namespace Go.Proofs.YtbhmkcjddpniiaaGreatDoor
open Go.RowKit Go.Shelf
section
variable {P : Program} {ops : Array Oper} {W : World} {Φ : Nat → Option GPost}
theorem wpG_quiet1W {K : Act → FactsT → Prop} {k : Nat} {o : Oper} {r : List Oper} {a : Act} {F : FactsT} (hw : Region.wanted o (yielded ops a.tmps) = true) (hs : stillB o = true) (hΦ : Φ k = none)
  (h : wpQuiet P ops (fun w' => ∃ x : HeldB W,w' = x.w) (fun a' => wpG P ops W Φ K (k + 1) r a' (putF F o.dst (known ops o F))) [o] a) : wpG P ops W Φ K k (o :: r) a F := by
 simp only [wpQuiet] at h
 rw [if_pos hw] at h
 obtain ⟨v,hq,h⟩ := h
 show gStep P ops W o (Φ k) _ a F
 unfold gStep
 rw [if_pos hw,hΦ]
 exact ⟨v,quietG_of (fun w hw => ⟨⟨w,hw⟩,rfl⟩) hs hq,h⟩
theorem no_enter_pick {o : Oper} {c x y : Operand} (ho : o.op = .pick c x y) {ρ : Operand → Value} {w w' : World} {f : FuncId} {args : Array Value} : (execOp ρ o).run P w ≠ .ok (.enter f args) w' := by
 intro h
 unfold execOp at h
 rw [ho] at h
 dsimp only at h
 rw [Sem.run_bind] at h
 cases hs : (asBool (ρ c)).run P w with
 | ok b w2 =>
  rw [hs] at h
  simp only [Result.andThen,Sem.run_pure] at h
  injection h with h1 _
  cases h1
 | halt x w2 =>
  rw [hs] at h
  simp only [Result.andThen] at h
  cases h
theorem wpG_pickW {K : Act → FactsT → Prop} {k : Nat} {o : Oper} {c x y : Operand} {r : List Oper} {a : Act} {F : FactsT} (ho : o.op = .pick c x y) (hw : Region.wanted o (yielded ops a.tmps) = true) (hΦ : Φ k = none)
  (h : wpQuiet P ops (fun w' => ∃ x : HeldB W,w' = x.w) (fun a' => wpG P ops W Φ K (k + 1) r a' (putF F o.dst (known ops o F))) [o] a) : wpG P ops W Φ K k (o :: r) a F := by
 simp only [wpQuiet] at h
 rw [if_pos hw] at h
 obtain ⟨v,hq,h⟩ := h
 show gStep P ops W o (Φ k) _ a F
 unfold gStep
 rw [if_pos hw,hΦ]
 refine ⟨v,fun w hb => ?_,h⟩
 have h1 := hq w ⟨⟨w,hb⟩,rfl⟩
 have h2 := fun f args w' => no_enter_pick (P := P) ho (ρ := a.eval) (w := w) (w' := w') (f := f) (args := args)
 unfold Oper.quietAt at h1
 generalize (execOp a.eval o).run P w = q at *
 cases q with
 | ok n w' =>
  cases n <;> simp only [Oper.quietUpon] at h1
  case value u => exact h1
  case skip => exact h1
  case enter f args => exact absurd rfl (h2 f args w')
 | halt x w' => simp only [Oper.quietUpon] at h1
theorem wpG_callW {K : Act → FactsT → Prop} {k : Nat} {o : Oper} {r : List Oper} {a : Act} {F : FactsT} {φ : GPost} (hw : Region.wanted o (yielded ops a.tmps) = true) (hφ : Φ k = some φ)
  (h : ∀ w,Below W.heap.size W w → known ops o F w → callsAt P o a φ w) (hK : ∀ v,φ.σ v → wpG P ops W Φ K (k + 1) r (a.put o.dst v) (putF F o.dst (φ.φ v))) (hfr : φ.fr = false := by rfl) : wpG P ops W Φ K k (o :: r) a F := by
 show gStep P ops W o (Φ k) _ a F
 unfold gStep
 rw [if_pos hw,hφ]
 exact ⟨fun w h1 h2 => .inl ⟨hfr,h w h1 h2⟩,hK⟩
end
end Go.Proofs.YtbhmkcjddpniiaaGreatDoor
