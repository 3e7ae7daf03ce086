/- Parts of the proof, laid into one text: EqIB, Same. -/
import Derived.BigQuiet
import Derived.Deep.AppendLies
import Derived.Deep.Cut
import Derived.Deep.Draws
import Derived.Deep.LoopGhost
import Derived.Deep.QuietTactic
import Derived.Lib.Hide
import Derived.Maps.AppendAt
import Derived.Shelf.Abstract
import Derived.StillTailTactics
import Derived.Test.YtbhmkcjddpniiaaGreatDoorProg
import Derived.Test.YtbhmkcjddpniiaaGreatDoorXD1
import Derived.Test.YtbhmkcjddpniiaaGreatDoorXG1
import Derived.WalkKit
import Derived.WalkLawsBesides
import Derived.WalkSpells

namespace Go.Proofs.YtbhmkcjddpniiaaGreatDoor
open Go.RowKit Go.Shelf
set_option maxRecDepth 100000 in
set_option maxHeartbeats 2000000 in
theorem equalBrick (v1 v2 : Value) (l1 l2 : List BrickT) (B : Nat) (w : World) (hl1 : BricksAt w B v1 l1) (hl2 : BricksAt w B v2 l2) :
  Calls Tryz.prog 100 #[v1,v2] w fun e w' => e = .returned (.bool (decide (l1 = l2))) ∧ ∃ n,w.drewN n = w' := by
 obtain ⟨A1,c1,rfl,hc1,hd1,hcell1⟩ := hl1.open_
 obtain ⟨A2,c2,rfl,hc2,hd2,hcell2⟩ := hl2.open_
 unfold maxLen at hd1 hd2
 clear hl1 hl2
 by_cases hlen : l1.length = l2.length
 ·have HL := Lib.hid hlen
  have hb : ((l1.length : Int) != l2.length) = false := by simp [hlen]
  have hle1 : l1.length ≤ l2.length := by omega
  have hle2 : l2.length ≤ l1.length := by omega
  clear hlen
  go_enter Tryz.func100,Tryz.ntmps100
  go_wp2
  go_loopw [13] (fun s wr => ∃ j : Nat,j ≤ l1.length ∧ s = .int .i64 j ∧ l1.take j = l2.take j ∧ ∃ n,wr = w.drewN n) (fun x _ => l1.length - (intOf x).toNat)
  case atStart => exact ⟨0,Nat.zero_le _,rfl,by simp,0,rfl⟩
  case round =>
   obtain ⟨j,hj,rfl,hnm,n,rfl⟩ := hrel
   have Hnm := Lib.hid hnm
   clear hnm
   by_cases hlt : j < l1.length
   ·have hlt2 : j < l2.length := by omega
    obtain ⟨b1,off1,rfl,hb1,hcell1⟩ := hcell1 j hlt
    obtain ⟨b2,off2,rfl,hb2,hcell2⟩ := hcell2 j hlt2
    have HT1 := Lib.hid (take_snoc l1 j hlt)
    have HT2 := Lib.hid (take_snoc l2 j hlt2)
    have HNE : Hid (l1[j] ≠ l2[j] → decide (l1 = l2) = false) := fun h => decide_eq_false fun e => h (by subst e;rfl)
    obtain ⟨h1_0,h1_1,h1_2⟩ := hcell1 j hlt
    obtain ⟨h2_0,h2_1,h2_2⟩ := hcell2 j hlt2
    clear hcell1 hcell2
    generalize l1[j] = x at *
    generalize l2[j] = y at *
    by_cases hq : x = y
    ·subst hq
     have ht0 : (x.name.toList == x.name.toList) = true := beq_self_eq_true _
     have ht1 : (x.wt == x.wt) = true := beq_self_eq_true _
     have ht2 : (x.cnt == x.cnt) = true := beq_self_eq_true _
     go_wp2
     go_quiet (fail)
     go_wp2
     go_roundw
     case rel => exact ⟨j + 1,by omega,by go_num,by rw [HT1.out,HT2.out,Hnm.out],_,rfl⟩
     case measure => simp [intOf];omega
    ·have HQ := Lib.hid (HNE.out hq)
     clear HNE HT1 HT2
     by_cases n0 : x.name = y.name
     rotate_left
     ·have ht0 : (x.name.toList == y.name.toList) = false := by rw [str_beq];exact decide_eq_false n0
      clear hq n0
      go_wp2
      go_quiet (fail)
      go_wp2
      go_ret
      exact ⟨ret_bool HQ.out.symm,q2⟩
     have ht0 : (x.name.toList == y.name.toList) = true := by rw [str_beq];exact decide_eq_true n0
     by_cases n1 : x.wt = y.wt
     rotate_left
     ·have ht1 : (x.wt == y.wt) = false := beq_eq_false_iff_ne.2 n1
      clear hq n0 n1
      go_wp2
      go_quiet (fail)
      go_wp2
      go_ret
      exact ⟨ret_bool HQ.out.symm,q2⟩
     have ht1 : (x.wt == y.wt) = true := beq_iff_eq.2 n1
     by_cases n2 : x.cnt = y.cnt
     rotate_left
     ·have ht2 : (x.cnt == y.cnt) = false := beq_eq_false_iff_ne.2 n2
      clear hq n0 n1 n2
      go_wp2
      go_quiet (fail)
      go_wp2
      go_ret
      exact ⟨ret_bool HQ.out.symm,q2⟩
     have ht2 : (x.cnt == y.cnt) = true := beq_iff_eq.2 n2
     exact absurd (by cases x;cases y;simp only at n0 n1 n2;subst n0 n1 n2;rfl) hq
   ·have hje : j = l1.length := by omega
    subst hje
    go_wp2
    go_ret
    exact ⟨ret_bool (by symm;rw [decide_eq_true_iff];have := Hnm.out;rw [List.take_length,HL.out,List.take_length] at this;exact this),q1⟩
 ·have hb : ((l1.length : Int) != l2.length) = true := by simp;omega
  have hne : l1 ≠ l2 := fun e => hlen (by rw [e])
  go_enter Tryz.func100,Tryz.ntmps100
  go_wp2
  go_ret
  exact ⟨ret_bool (by symm;simpa using hne),0,rfl⟩
set_option maxRecDepth 100000 in
set_option maxHeartbeats 2000000 in
theorem equalItem (v1 v2 : Value) (l1 l2 : List ItemT) (B : Nat) (w : World) (hl1 : ItemsAt w B v1 l1) (hl2 : ItemsAt w B v2 l2) :
  Calls Tryz.prog 99 #[v1,v2] w fun e w' => e = .returned (.bool (decide (l1 = l2))) ∧ ∃ n,w.drewN n = w' := by
 obtain ⟨A1,c1,rfl,hc1,hd1,hcell1⟩ := hl1.open_
 obtain ⟨A2,c2,rfl,hc2,hd2,hcell2⟩ := hl2.open_
 unfold maxLen at hd1 hd2
 clear hl1 hl2
 by_cases hlen : l1.length = l2.length
 ·have HL := Lib.hid hlen
  have hb : ((l1.length : Int) != l2.length) = false := by simp [hlen]
  have hle1 : l1.length ≤ l2.length := by omega
  have hle2 : l2.length ≤ l1.length := by omega
  clear hlen
  go_enter Tryz.func99,Tryz.ntmps99
  go_wp2
  go_loopw [13] (fun s wr => ∃ j : Nat,j ≤ l1.length ∧ s = .int .i64 j ∧ l1.take j = l2.take j ∧ ∃ n,wr = w.drewN n) (fun x _ => l1.length - (intOf x).toNat)
  case atStart => exact ⟨0,Nat.zero_le _,rfl,by simp,0,rfl⟩
  case round =>
   obtain ⟨j,hj,rfl,hnm,n,rfl⟩ := hrel
   have Hnm := Lib.hid hnm
   clear hnm
   by_cases hlt : j < l1.length
   ·have hlt2 : j < l2.length := by omega
    obtain ⟨b1,off1,rfl,hb1,hcell1⟩ := hcell1 j hlt
    obtain ⟨b2,off2,rfl,hb2,hcell2⟩ := hcell2 j hlt2
    have HT1 := Lib.hid (take_snoc l1 j hlt)
    have HT2 := Lib.hid (take_snoc l2 j hlt2)
    have HNE : Hid (l1[j] ≠ l2[j] → decide (l1 = l2) = false) := fun h => decide_eq_false fun e => h (by subst e;rfl)
    obtain ⟨h1_0,h1_1,h1_2,h1_3,h1_4,h1_5,h1_6⟩ := hcell1 j hlt
    obtain ⟨h2_0,h2_1,h2_2,h2_3,h2_4,h2_5,h2_6⟩ := hcell2 j hlt2
    clear hcell1 hcell2
    generalize l1[j] = x at *
    generalize l2[j] = y at *
    by_cases hq : x = y
    ·subst hq
     have ht0 : (x.name.toList == x.name.toList) = true := beq_self_eq_true _
     have ht1 : (x.pos == x.pos) = true := beq_self_eq_true _
     have ht2 : (x.width == x.width) = true := beq_self_eq_true _
     have ht3 : (x.wt == x.wt) = true := beq_self_eq_true _
     have ht4 : (x.hang == x.hang) = true := beq_self_eq_true _
     have ht5 : (x.front == x.front) = true := beq_self_eq_true _
     have ht6 : (x.back == x.back) = true := beq_self_eq_true _
     go_wp2
     go_quiet (fail)
     go_wp2
     go_roundw
     case rel => exact ⟨j + 1,by omega,by go_num,by rw [HT1.out,HT2.out,Hnm.out],_,rfl⟩
     case measure => simp [intOf];omega
    ·have HQ := Lib.hid (HNE.out hq)
     clear HNE HT1 HT2
     by_cases n0 : x.name = y.name
     rotate_left
     ·have ht0 : (x.name.toList == y.name.toList) = false := by rw [str_beq];exact decide_eq_false n0
      clear hq n0
      go_wp2
      go_quiet (fail)
      go_wp2
      go_ret
      exact ⟨ret_bool HQ.out.symm,q2⟩
     have ht0 : (x.name.toList == y.name.toList) = true := by rw [str_beq];exact decide_eq_true n0
     by_cases n1 : x.pos = y.pos
     rotate_left
     ·have ht1 : (x.pos == y.pos) = false := beq_eq_false_iff_ne.2 n1
      clear hq n0 n1
      go_wp2
      go_quiet (fail)
      go_wp2
      go_ret
      exact ⟨ret_bool HQ.out.symm,q2⟩
     have ht1 : (x.pos == y.pos) = true := beq_iff_eq.2 n1
     by_cases n2 : x.width = y.width
     rotate_left
     ·have ht2 : (x.width == y.width) = false := beq_eq_false_iff_ne.2 n2
      clear hq n0 n1 n2
      go_wp2
      go_quiet (fail)
      go_wp2
      go_ret
      exact ⟨ret_bool HQ.out.symm,q2⟩
     have ht2 : (x.width == y.width) = true := beq_iff_eq.2 n2
     by_cases n3 : x.wt = y.wt
     rotate_left
     ·have ht3 : (x.wt == y.wt) = false := beq_eq_false_iff_ne.2 n3
      clear hq n0 n1 n2 n3
      go_wp2
      go_quiet (fail)
      go_wp2
      go_ret
      exact ⟨ret_bool HQ.out.symm,q2⟩
     have ht3 : (x.wt == y.wt) = true := beq_iff_eq.2 n3
     by_cases n4 : x.hang = y.hang
     rotate_left
     ·have ht4 : (x.hang == y.hang) = false := beq_eq_false_iff_ne.2 n4
      clear hq n0 n1 n2 n3 n4
      go_wp2
      go_quiet (fail)
      go_wp2
      go_ret
      exact ⟨ret_bool HQ.out.symm,q2⟩
     have ht4 : (x.hang == y.hang) = true := beq_iff_eq.2 n4
     by_cases n5 : x.front = y.front
     rotate_left
     ·have ht5 : (x.front == y.front) = false := beq_eq_false_iff_ne.2 n5
      clear hq n0 n1 n2 n3 n4 n5
      go_wp2
      go_quiet (fail)
      go_wp2
      go_ret
      exact ⟨ret_bool HQ.out.symm,q2⟩
     have ht5 : (x.front == y.front) = true := beq_iff_eq.2 n5
     by_cases n6 : x.back = y.back
     rotate_left
     ·have ht6 : (x.back == y.back) = false := beq_eq_false_iff_ne.2 n6
      clear hq n0 n1 n2 n3 n4 n5 n6
      go_wp2
      go_quiet (fail)
      go_wp2
      go_ret
      exact ⟨ret_bool HQ.out.symm,q2⟩
     have ht6 : (x.back == y.back) = true := beq_iff_eq.2 n6
     exact absurd (by cases x;cases y;simp only at n0 n1 n2 n3 n4 n5 n6;subst n0 n1 n2 n3 n4 n5 n6;rfl) hq
   ·have hje : j = l1.length := by omega
    subst hje
    go_wp2
    go_ret
    exact ⟨ret_bool (by symm;rw [decide_eq_true_iff];have := Hnm.out;rw [List.take_length,HL.out,List.take_length] at this;exact this),q1⟩
 ·have hb : ((l1.length : Int) != l2.length) = true := by simp;omega
  have hne : l1 ≠ l2 := fun e => hlen (by rw [e])
  go_enter Tryz.func99,Tryz.ntmps99
  go_wp2
  go_ret
  exact ⟨ret_bool (by symm;simpa using hne),0,rfl⟩
end Go.Proofs.YtbhmkcjddpniiaaGreatDoor

namespace Go.Proofs.YtbhmkcjddpniiaaGreatDoor
open Go.RowKit Go.Shelf
set_option maxRecDepth 100000 in
set_option maxHeartbeats 8000000 in
theorem lsSame (v1 v2 : Value) (s t : SetT) (w : World) (h1 : SetAt w w.heap.size v1 s) (h2 : SetAt w w.heap.size v2 t) :
  Calls Tryz.prog 49 #[v1,v2] w fun e w' => e = .returned (.bool (decide (s = t))) ∧ Below w.heap.size w w' := by
 obtain ⟨Al1,cl1,Ai1,ci1,Ab1,cb1,rfl,hL1,hI1,hB1⟩ := h1
 obtain ⟨Al2,cl2,Ai2,ci2,Ab2,cb2,rfl,hL2,hI2,hB2⟩ := h2
 have HD1 := Lib.hid ((Blk.new w 26 #[.string s.name,.int .i64 s.depth,.int .i64 s.low,.int .i64 s.high,.int .i64 s.len,.slice Al1 s.lines.length cl1,.int .i64 s.pipe,.int .i64 s.arbor,.int .i64 s.purch,.int .i64 s.most,.int .i64 s.brake,.slice Ai1 s.items.length ci1,.slice Ab1 s.bricks.length cb1]).alloc (.cells #[.string t.name,.int .i64 t.depth,.int .i64 t.low,.int .i64 t.high,.int .i64 t.len,.slice Al2 t.lines.length cl2,.int .i64 t.pipe,.int .i64 t.arbor,.int .i64 t.purch,.int .i64 t.most,.int .i64 t.brake,.slice Ai2 t.items.length ci2,.slice Ab2 t.bricks.length cb2] 26))
 have hd2 := Blk.new (w.alloc (.cells #[.string s.name,.int .i64 s.depth,.int .i64 s.low,.int .i64 s.high,.int .i64 s.len,.slice Al1 s.lines.length cl1,.int .i64 s.pipe,.int .i64 s.arbor,.int .i64 s.purch,.int .i64 s.most,.int .i64 s.brake,.slice Ai1 s.items.length ci1,.slice Ab1 s.bricks.length cb1] 26)) 26 #[.string t.name,.int .i64 t.depth,.int .i64 t.low,.int .i64 t.high,.int .i64 t.len,.slice Al2 t.lines.length cl2,.int .i64 t.pipe,.int .i64 t.arbor,.int .i64 t.purch,.int .i64 t.most,.int .i64 t.brake,.slice Ai2 t.items.length ci2,.slice Ab2 t.bricks.length cb2]
 rw [World.size_alloc] at hd2
 have HD2 := Lib.hid hd2
 have hb := ((Below.refl _ w).alloc (Nat.le_refl _) (.cells #[.string s.name,.int .i64 s.depth,.int .i64 s.low,.int .i64 s.high,.int .i64 s.len,.slice Al1 s.lines.length cl1,.int .i64 s.pipe,.int .i64 s.arbor,.int .i64 s.purch,.int .i64 s.most,.int .i64 s.brake,.slice Ai1 s.items.length ci1,.slice Ab1 s.bricks.length cb1] 26)).alloc (by simp) (.cells #[.string t.name,.int .i64 t.depth,.int .i64 t.low,.int .i64 t.high,.int .i64 t.len,.slice Al2 t.lines.length cl2,.int .i64 t.pipe,.int .i64 t.arbor,.int .i64 t.purch,.int .i64 t.most,.int .i64 t.brake,.slice Ai2 t.items.length ci2,.slice Ab2 t.bricks.length cb2] 26)
 have HB := Lib.hid hb
 have HEL := Lib.hid fun W (hb : Below w.heap.size w W) => equalInt _ _ s.lines t.lines _ W (RowAt.below hL1 hb (Nat.le_refl _)) (RowAt.below hL2 hb (Nat.le_refl _))
 have HEI := Lib.hid fun W (hb : Below w.heap.size w W) => equalItem _ _ s.items t.items _ W (hI1.below hb (Nat.le_refl _)) (hI2.below hb (Nat.le_refl _))
 have HEB := Lib.hid fun W (hb : Below w.heap.size w W) => equalBrick _ _ s.bricks t.bricks _ W (hB1.below hb (Nat.le_refl _)) (hB2.below hb (Nat.le_refl _))
 have HNE : Hid (s ≠ t → decide (s = t) = false) := fun h => decide_eq_false h
 have HEQ : Hid (s.name = t.name ∧ s.depth = t.depth ∧ s.low = t.low ∧ s.high = t.high ∧ s.len = t.len ∧ s.pipe = t.pipe ∧ s.arbor = t.arbor ∧ s.purch = t.purch ∧ s.most = t.most ∧ s.brake = t.brake ∧ s.lines = t.lines ∧ s.items = t.items ∧ s.bricks = t.bricks → decide (s = t) = true) := by
  rintro ⟨e0,e1,e2,e3,e4,e5,e6,e7,e8,e9,e10,e11,e12⟩
  rw [decide_eq_true_iff]
  cases s;cases t
  simp only at e0 e1 e2 e3 e4 e5 e6 e7 e8 e9 e10 e11 e12
  subst e0 e1 e2 e3 e4 e5 e6 e7 e8 e9 e10 e11 e12
  rfl
 clear hL1 hL2 hI1 hI2 hB1 hB2 hd2 hb
 unfold setVal at *
 go_enter Tryz.func49,Tryz.ntmps49
 go_upto_region 1 with fail
 generalize (Value.agg #[.string s.name,.int .i64 s.depth,.int .i64 s.low,.int .i64 s.high,.int .i64 s.len,.slice Al1 s.lines.length cl1,.int .i64 s.pipe,.int .i64 s.arbor,.int .i64 s.purch,.int .i64 s.most,.int .i64 s.brake,.slice Ai1 s.items.length ci1,.slice Ab1 s.bricks.length cb1]) = V1
 generalize (Value.agg #[.string t.name,.int .i64 t.depth,.int .i64 t.low,.int .i64 t.high,.int .i64 t.len,.slice Al2 t.lines.length cl2,.int .i64 t.pipe,.int .i64 t.arbor,.int .i64 t.purch,.int .i64 t.most,.int .i64 t.brake,.slice Ai2 t.items.length ci2,.slice Ab2 t.bricks.length cb2]) = V2
 generalize ((w.alloc (.cells #[.string s.name,.int .i64 s.depth,.int .i64 s.low,.int .i64 s.high,.int .i64 s.len,.slice Al1 s.lines.length cl1,.int .i64 s.pipe,.int .i64 s.arbor,.int .i64 s.purch,.int .i64 s.most,.int .i64 s.brake,.slice Ai1 s.items.length ci1,.slice Ab1 s.bricks.length cb1] 26)).alloc (.cells #[.string t.name,.int .i64 t.depth,.int .i64 t.low,.int .i64 t.high,.int .i64 t.len,.slice Al2 t.lines.length cl2,.int .i64 t.pipe,.int .i64 t.arbor,.int .i64 t.purch,.int .i64 t.most,.int .i64 t.brake,.slice Ai2 t.items.length ci2,.slice Ab2 t.bricks.length cb2] 26)) = W1 at *
 have x0 := HD1.out.cell 0;have x1 := HD1.out.cell 1;have x2 := HD1.out.cell 2;have x3 := HD1.out.cell 3;have x4 := HD1.out.cell 4;have x5 := HD1.out.cell 5;have x6 := HD1.out.cell 6;have x7 := HD1.out.cell 7;have x8 := HD1.out.cell 8;have x9 := HD1.out.cell 9;have x10 := HD1.out.cell 10;have x11 := HD1.out.cell 11;have x12 := HD1.out.cell 12;simp only [List.getElem?_toArray,List.getElem?_cons_succ,List.getElem?_cons_zero] at x0 x1 x2 x3 x4 x5 x6 x7 x8 x9 x10 x11 x12
 have y0 := HD2.out.cell 0;have y1 := HD2.out.cell 1;have y2 := HD2.out.cell 2;have y3 := HD2.out.cell 3;have y4 := HD2.out.cell 4;have y5 := HD2.out.cell 5;have y6 := HD2.out.cell 6;have y7 := HD2.out.cell 7;have y8 := HD2.out.cell 8;have y9 := HD2.out.cell 9;have y10 := HD2.out.cell 10;have y11 := HD2.out.cell 11;have y12 := HD2.out.cell 12;simp only [List.getElem?_toArray,List.getElem?_cons_succ,List.getElem?_cons_zero] at y0 y1 y2 y3 y4 y5 y6 y7 y8 y9 y10 y11 y12
 by_cases n0 : s.name = t.name
 rotate_left
 ·have ht0 : (s.name.toList == t.name.toList) = false := by rw [str_beq];exact decide_eq_false n0
  have HN := Lib.hid (HNE.out fun e => n0 (by rw [e]))
  clear HNE HEQ HEL HEI HEB n0
  clear x1 x2 x3 x4 x6 x7 x8 x9 x10 x5 x11 x12 y1 y2 y3 y4 y6 y7 y8 y9 y10 y5 y11 y12
  go_wp2_with fail
  go_ret
  exact ⟨ret_bool HN.out.symm,HB.out⟩
 have ht0 : (s.name.toList == t.name.toList) = true := by rw [str_beq];exact decide_eq_true n0
 by_cases n1 : s.depth = t.depth
 rotate_left
 ·have ht1 : (s.depth == t.depth) = false := beq_eq_false_iff_ne.2 n1
  have HN := Lib.hid (HNE.out fun e => n1 (by rw [e]))
  clear HNE HEQ HEL HEI HEB n0 n1
  clear x2 x3 x4 x6 x7 x8 x9 x10 x5 x11 x12 y2 y3 y4 y6 y7 y8 y9 y10 y5 y11 y12
  go_wp2_with fail
  go_ret
  exact ⟨ret_bool HN.out.symm,HB.out⟩
 have ht1 : (s.depth == t.depth) = true := beq_iff_eq.2 n1
 by_cases n2 : s.low = t.low
 rotate_left
 ·have ht2 : (s.low == t.low) = false := beq_eq_false_iff_ne.2 n2
  have HN := Lib.hid (HNE.out fun e => n2 (by rw [e]))
  clear HNE HEQ HEL HEI HEB n0 n1 n2
  clear x3 x4 x6 x7 x8 x9 x10 x5 x11 x12 y3 y4 y6 y7 y8 y9 y10 y5 y11 y12
  go_wp2_with fail
  go_ret
  exact ⟨ret_bool HN.out.symm,HB.out⟩
 have ht2 : (s.low == t.low) = true := beq_iff_eq.2 n2
 by_cases n3 : s.high = t.high
 rotate_left
 ·have ht3 : (s.high == t.high) = false := beq_eq_false_iff_ne.2 n3
  have HN := Lib.hid (HNE.out fun e => n3 (by rw [e]))
  clear HNE HEQ HEL HEI HEB n0 n1 n2 n3
  clear x4 x6 x7 x8 x9 x10 x5 x11 x12 y4 y6 y7 y8 y9 y10 y5 y11 y12
  go_wp2_with fail
  go_ret
  exact ⟨ret_bool HN.out.symm,HB.out⟩
 have ht3 : (s.high == t.high) = true := beq_iff_eq.2 n3
 by_cases n4 : s.len = t.len
 rotate_left
 ·have ht4 : (s.len == t.len) = false := beq_eq_false_iff_ne.2 n4
  have HN := Lib.hid (HNE.out fun e => n4 (by rw [e]))
  clear HNE HEQ HEL HEI HEB n0 n1 n2 n3 n4
  clear x6 x7 x8 x9 x10 x5 x11 x12 y6 y7 y8 y9 y10 y5 y11 y12
  go_wp2_with fail
  go_ret
  exact ⟨ret_bool HN.out.symm,HB.out⟩
 have ht4 : (s.len == t.len) = true := beq_iff_eq.2 n4
 by_cases n5 : s.pipe = t.pipe
 rotate_left
 ·have ht5 : (s.pipe == t.pipe) = false := beq_eq_false_iff_ne.2 n5
  have HN := Lib.hid (HNE.out fun e => n5 (by rw [e]))
  clear HNE HEQ HEL HEI HEB n0 n1 n2 n3 n4 n5
  clear x7 x8 x9 x10 x5 x11 x12 y7 y8 y9 y10 y5 y11 y12
  go_wp2_with fail
  go_ret
  exact ⟨ret_bool HN.out.symm,HB.out⟩
 have ht5 : (s.pipe == t.pipe) = true := beq_iff_eq.2 n5
 by_cases n6 : s.arbor = t.arbor
 rotate_left
 ·have ht6 : (s.arbor == t.arbor) = false := beq_eq_false_iff_ne.2 n6
  have HN := Lib.hid (HNE.out fun e => n6 (by rw [e]))
  clear HNE HEQ HEL HEI HEB n0 n1 n2 n3 n4 n5 n6
  clear x8 x9 x10 x5 x11 x12 y8 y9 y10 y5 y11 y12
  go_wp2_with fail
  go_ret
  exact ⟨ret_bool HN.out.symm,HB.out⟩
 have ht6 : (s.arbor == t.arbor) = true := beq_iff_eq.2 n6
 by_cases n7 : s.purch = t.purch
 rotate_left
 ·have ht7 : (s.purch == t.purch) = false := beq_eq_false_iff_ne.2 n7
  have HN := Lib.hid (HNE.out fun e => n7 (by rw [e]))
  clear HNE HEQ HEL HEI HEB n0 n1 n2 n3 n4 n5 n6 n7
  clear x9 x10 x5 x11 x12 y9 y10 y5 y11 y12
  go_wp2_with fail
  go_ret
  exact ⟨ret_bool HN.out.symm,HB.out⟩
 have ht7 : (s.purch == t.purch) = true := beq_iff_eq.2 n7
 by_cases n8 : s.most = t.most
 rotate_left
 ·have ht8 : (s.most == t.most) = false := beq_eq_false_iff_ne.2 n8
  have HN := Lib.hid (HNE.out fun e => n8 (by rw [e]))
  clear HNE HEQ HEL HEI HEB n0 n1 n2 n3 n4 n5 n6 n7 n8
  clear x10 x5 x11 x12 y10 y5 y11 y12
  go_wp2_with fail
  go_ret
  exact ⟨ret_bool HN.out.symm,HB.out⟩
 have ht8 : (s.most == t.most) = true := beq_iff_eq.2 n8
 by_cases n9 : s.brake = t.brake
 rotate_left
 ·have ht9 : (s.brake == t.brake) = false := beq_eq_false_iff_ne.2 n9
  have HN := Lib.hid (HNE.out fun e => n9 (by rw [e]))
  clear HNE HEQ HEL HEI HEB n0 n1 n2 n3 n4 n5 n6 n7 n8 n9
  clear x5 x11 x12 y5 y11 y12
  go_wp2_with fail
  go_ret
  exact ⟨ret_bool HN.out.symm,HB.out⟩
 have ht9 : (s.brake == t.brake) = true := beq_iff_eq.2 n9
 have HNN : Hid (s.name = t.name ∧ s.depth = t.depth ∧ s.low = t.low ∧ s.high = t.high ∧ s.len = t.len ∧ s.pipe = t.pipe ∧ s.arbor = t.arbor ∧ s.purch = t.purch ∧ s.most = t.most ∧ s.brake = t.brake) := ⟨n0,n1,n2,n3,n4,n5,n6,n7,n8,n9⟩
 clear n0 n1 n2 n3 n4 n5 n6 n7 n8 n9
 go_wp2_with fail
 refine (HEL.out _ HB.out).mono ?_
 rintro e w2 ⟨rfl,nq,rfl⟩
 have HB2 := Lib.hid (below_drewN HB.out nq)
 have HDA := Lib.hid (HD1.out.drewN nq)
 have HDB := Lib.hid (HD2.out.drewN nq)
 clear HD1 HD2 HB HEL ht0 ht1 ht2 ht3 ht4 ht5 ht6 ht7 ht8 ht9 x0 x1 x2 x3 x4 x5 x6 x7 x8 x9 x10 x11 x12 y0 y1 y2 y3 y4 y5 y6 y7 y8 y9 y10 y11 y12
 generalize W1.drewN nq = W2 at *
 have x11 := HDA.out.cell 11;have x12 := HDA.out.cell 12;simp only [List.getElem?_toArray,List.getElem?_cons_succ,List.getElem?_cons_zero] at x11 x12
 have y11 := HDB.out.cell 11;have y12 := HDB.out.cell 12;simp only [List.getElem?_toArray,List.getElem?_cons_succ,List.getElem?_cons_zero] at y11 y12
 by_cases m0 : s.lines = t.lines
 rotate_left
 ·have HN := Lib.hid (HNE.out fun e => m0 (by rw [e]))
  rw [decide_eq_false m0]
  clear HNE HEQ m0
  go_wp2_with fail
  go_ret
  exact ⟨ret_bool HN.out.symm,HB2.out⟩
 rw [decide_eq_true m0]
 have HM0 := Lib.hid m0
 clear m0
 go_wp2_with fail
 refine (HEI.out _ HB2.out).mono ?_
 rintro e w2 ⟨rfl,nq2,rfl⟩
 have HB3 := Lib.hid (below_drewN HB2.out nq2)
 have HDA3 := Lib.hid (HDA.out.drewN nq2)
 have HDB3 := Lib.hid (HDB.out.drewN nq2)
 clear HDA HDB HB2 HEI x11 x12 y11 y12
 generalize W2.drewN nq2 = W3 at *
 have x12 := HDA3.out.cell 12;simp only [List.getElem?_toArray,List.getElem?_cons_succ,List.getElem?_cons_zero] at x12
 have y12 := HDB3.out.cell 12;simp only [List.getElem?_toArray,List.getElem?_cons_succ,List.getElem?_cons_zero] at y12
 by_cases m1 : s.items = t.items
 rotate_left
 ·have HN := Lib.hid (HNE.out fun e => m1 (by rw [e]))
  rw [decide_eq_false m1]
  clear HNE HEQ m1
  go_wp2_with fail
  go_ret
  exact ⟨ret_bool HN.out.symm,HB3.out⟩
 rw [decide_eq_true m1]
 have HM1 := Lib.hid m1
 clear m1
 go_wp2_with fail
 refine (HEB.out _ HB3.out).mono ?_
 rintro e w2 ⟨rfl,nq3,rfl⟩
 have HB4 := Lib.hid (below_drewN HB3.out nq3)
 clear HB3 HEB
 by_cases m2 : s.bricks = t.bricks
 rotate_left
 ·have HN := Lib.hid (HNE.out fun e => m2 (by rw [e]))
  rw [decide_eq_false m2]
  clear HNE HEQ m2
  go_wp2_with fail
  go_ret
  exact ⟨ret_bool HN.out.symm,HB4.out⟩
 rw [decide_eq_true m2]
 have HE : Hid (decide (s = t) = true) := by
  obtain ⟨n0,n1,n2,n3,n4,n5,n6,n7,n8,n9⟩ := HNN.out
  exact HEQ.out ⟨n0,n1,n2,n3,n4,n5,n6,n7,n8,n9,HM0.out,HM1.out,m2⟩
 clear HEQ HNE HNN HM0 HM1 m2
 go_wp2_with fail
 go_ret
 exact ⟨ret_bool HE.out.symm,HB4.out⟩
end Go.Proofs.YtbhmkcjddpniiaaGreatDoor
