/- Parts of the proof, laid into one text: LawDiffers. -/
import Derived.BigQuiet
import Derived.Deep.AppendLies
import Derived.Deep.Cut
import Derived.Deep.Draws
import Derived.Deep.LoopGhost
import Derived.Deep.QuietTactic
import Derived.Deep.RegionHeld3
import Derived.Deep.RegionLaw
import Derived.IntWalk
import Derived.Laws.Bits64b
import Derived.Laws.Concat
import Derived.Lib.AppendIntMem
import Derived.Lib.Hide
import Derived.Lib.ItoaLen
import Derived.Lib.ItoaMem
import Derived.Lib.Join
import Derived.Lib.SmallJoins
import Derived.LoopIn
import Derived.LoopNIn
import Derived.Maps.AppendAt
import Derived.Maps.Own
import Derived.Maps.OwnOps
import Derived.Maps.OwnSet
import Derived.Maps.Views
import Derived.Outline
import Derived.OwnWalkIn
import Derived.PlainAid
import Derived.RangeFuncBox
import Derived.RangeFuncLeaves
import Derived.Shelf.Abstract
import Derived.Shelf.Bits.Mul64
import Derived.Shelf.Strconv.Itoa3
import Derived.Shelf.Strings.Count
import Derived.Shelf.Strings.OnBuilder
import Derived.Shelf.Strings.Prefix
import Derived.StillTail
import Derived.StillTailTactics
import Derived.TacticsInMore
import Derived.Test.YtbhmkcjddpniiaaGreatDoorC1
import Derived.Test.YtbhmkcjddpniiaaGreatDoorC2
import Derived.Test.YtbhmkcjddpniiaaGreatDoorC3
import Derived.Test.YtbhmkcjddpniiaaGreatDoorC4
import Derived.Test.YtbhmkcjddpniiaaGreatDoorC5
import Derived.Test.YtbhmkcjddpniiaaGreatDoorC6
import Derived.Test.YtbhmkcjddpniiaaGreatDoorC7
import Derived.Test.YtbhmkcjddpniiaaGreatDoorD1
import Derived.Test.YtbhmkcjddpniiaaGreatDoorD2
import Derived.Test.YtbhmkcjddpniiaaGreatDoorD3
import Derived.Test.YtbhmkcjddpniiaaGreatDoorD4
import Derived.Test.YtbhmkcjddpniiaaGreatDoorD5
import Derived.Test.YtbhmkcjddpniiaaGreatDoorD6
import Derived.Test.YtbhmkcjddpniiaaGreatDoorG1
import Derived.Test.YtbhmkcjddpniiaaGreatDoorI1
import Derived.Test.YtbhmkcjddpniiaaGreatDoorI2
import Derived.Test.YtbhmkcjddpniiaaGreatDoorProg
import Derived.WalkKit
import Derived.WalkLawsBesides
import Derived.WalkSpells

namespace Go.Proofs.YtbhmkcjddpniiaaGreatDoor
open Go.RowKit Go.Shelf
def textB (s : SetT) : ByteArray := ⟨(setText s).toArray⟩
theorem textB_eq {s t : SetT} (hs : setB s = true) (ht : setB t = true) : ((textB s).toList == (textB t).toList) = decide (s = t) := by
 rw [str_beq]
 refine decide_eq_decide.2 ⟨fun h => setText_inj (setB_clean hs) (setB_clean ht) ?_,fun h => by rw [h]⟩
 have := congrArg (fun b : ByteArray => b.data.toList) h
 simpa [textB] using this
theorem textB_count {s : SetT} (hs : setB s = true) : (((textB s).data.toList.count 10 : Nat) : Int) = 2 + (s.items.length : Int) + (s.bricks.length : Int) := by
 show ((((setText s).toArray.toList).count 10 : Nat) : Int) = _
 rw [List.toList_toArray,setText_count (setB_clean hs)]
 omega
theorem textB_pre (s : SetT) : ((⟨#[115,101,116,32]⟩ ++ s.name ++ ⟨#[32]⟩ : ByteArray).data.toList.isPrefixOf (textB s).data.toList) = true := by
 obtain ⟨r,hr⟩ := setText_head s
 rw [List.isPrefixOf_iff_prefix]
 refine ⟨r,?_⟩
 show _ = (setText s).toArray.toList
 rw [List.toList_toArray,hr]
 simp [twSet]
theorem text_ret (v : Value) (s : SetT) (w : World) (hv : SetAt w w.heap.size v s) (hn : SetNames s) (ht : Tab w) :
  Calls Tryz.prog 48 #[v] w fun e w' => e = .returned (.tuple #[.string (if setB s then textB s else ⟨#[]⟩),.int .i64 (if setB s then 0 else 1)]) ∧ Below w.heap.size w w' :=
 (lsText v s w hv hn ht).mono fun e w' ⟨he,hb⟩ => ⟨by rw [he];cases setB s <;> rfl,hb⟩
set_option maxRecDepth 100000 in
set_option maxHeartbeats 8000000 in
theorem lawDiffers (v1 v2 : Value) (s t : SetT) (w : World) (h1 : SetAt w w.heap.size v1 s) (h2 : SetAt w w.heap.size v2 t) (hn1 : SetNames s) (hn2 : SetNames t) (ht : Tab w) :
  Calls Tryz.prog 11 #[v1,v2] w fun e w' => e = .returned (.bool true) ∧ Below w.heap.size w w' := by
 have HT := Lib.hid fun W (hb : Below w.heap.size w W) => ht.below hb
 have HLs := Lib.hid fun W (hb : Below w.heap.size w W) => lawLarge29 v1 s W ((h1.below hb (Nat.le_refl _)).mono hb.size) hn1
 have HLt := Lib.hid fun W (hb : Below w.heap.size w W) => lawLarge29 v2 t W ((h2.below hb (Nat.le_refl _)).mono hb.size) hn2
 have HTs := Lib.hid fun W (hb : Below w.heap.size w W) => text_ret v1 s W ((h1.below hb (Nat.le_refl _)).mono hb.size) hn1 (HT.out W hb)
 have HTt := Lib.hid fun W (hb : Below w.heap.size w W) => text_ret v2 t W ((h2.below hb (Nat.le_refl _)).mono hb.size) hn2 (HT.out W hb)
 have HSa := Lib.hid fun W (hb : Below w.heap.size w W) => lsSame v1 v2 s t W ((h1.below hb (Nat.le_refl _)).mono hb.size) ((h2.below hb (Nat.le_refl _)).mono hb.size)
 have HNm := Lib.hid hn1.name
 obtain ⟨Al1,cl1,Ai1,ci1,Ab1,cb1,rfl,-,-,-⟩ := h1
 obtain ⟨Al2,cl2,Ai2,ci2,Ab2,cb2,rfl,-,-,-⟩ := h2
 have HX1 := Lib.hid ((Blk.new w 26 #[.string s.name,.int .i64 s.depth,.int .i64 s.low,.int .i64 s.high,.int .i64 s.len,.slice Al1 s.lines.length cl1,.int .i64 s.pipe,.int .i64 s.arbor,.int .i64 s.purch,.int .i64 s.most,.int .i64 s.brake,.slice Ai1 s.items.length ci1,.slice Ab1 s.bricks.length cb1]).alloc (.cells #[.string t.name,.int .i64 t.depth,.int .i64 t.low,.int .i64 t.high,.int .i64 t.len,.slice Al2 t.lines.length cl2,.int .i64 t.pipe,.int .i64 t.arbor,.int .i64 t.purch,.int .i64 t.most,.int .i64 t.brake,.slice Ai2 t.items.length ci2,.slice Ab2 t.bricks.length cb2] 26))
 have hd2 := Blk.new (w.alloc (.cells #[.string s.name,.int .i64 s.depth,.int .i64 s.low,.int .i64 s.high,.int .i64 s.len,.slice Al1 s.lines.length cl1,.int .i64 s.pipe,.int .i64 s.arbor,.int .i64 s.purch,.int .i64 s.most,.int .i64 s.brake,.slice Ai1 s.items.length ci1,.slice Ab1 s.bricks.length cb1] 26)) 26 #[.string t.name,.int .i64 t.depth,.int .i64 t.low,.int .i64 t.high,.int .i64 t.len,.slice Al2 t.lines.length cl2,.int .i64 t.pipe,.int .i64 t.arbor,.int .i64 t.purch,.int .i64 t.most,.int .i64 t.brake,.slice Ai2 t.items.length ci2,.slice Ab2 t.bricks.length cb2]
 rw [World.size_alloc] at hd2
 have HY1 := Lib.hid hd2
 have HB1 := Lib.hid (((Below.refl _ w).alloc (Nat.le_refl _) (.cells #[.string s.name,.int .i64 s.depth,.int .i64 s.low,.int .i64 s.high,.int .i64 s.len,.slice Al1 s.lines.length cl1,.int .i64 s.pipe,.int .i64 s.arbor,.int .i64 s.purch,.int .i64 s.most,.int .i64 s.brake,.slice Ai1 s.items.length ci1,.slice Ab1 s.bricks.length cb1] 26)).alloc (by simp) (.cells #[.string t.name,.int .i64 t.depth,.int .i64 t.low,.int .i64 t.high,.int .i64 t.len,.slice Al2 t.lines.length cl2,.int .i64 t.pipe,.int .i64 t.arbor,.int .i64 t.purch,.int .i64 t.most,.int .i64 t.brake,.slice Ai2 t.items.length ci2,.slice Ab2 t.bricks.length cb2] 26))
 clear hd2 hn1 hn2 ht HT
 unfold setVal at *
 go_enter Tryz.func11,Tryz.ntmps11
 go_upto_region 1 with fail
 generalize ((w.alloc (.cells #[.string s.name,.int .i64 s.depth,.int .i64 s.low,.int .i64 s.high,.int .i64 s.len,.slice Al1 s.lines.length cl1,.int .i64 s.pipe,.int .i64 s.arbor,.int .i64 s.purch,.int .i64 s.most,.int .i64 s.brake,.slice Ai1 s.items.length ci1,.slice Ab1 s.bricks.length cb1] 26)).alloc (.cells #[.string t.name,.int .i64 t.depth,.int .i64 t.low,.int .i64 t.high,.int .i64 t.len,.slice Al2 t.lines.length cl2,.int .i64 t.pipe,.int .i64 t.arbor,.int .i64 t.purch,.int .i64 t.most,.int .i64 t.brake,.slice Ai2 t.items.length ci2,.slice Ab2 t.bricks.length cb2] 26)) = W1 at *
 go_wp2_with fail
 refine (lawAwake29 _).mono ?_
 rintro e w2 ⟨rfl,hb2⟩
 have HB2 := Lib.hid (HB1.out.trans (hb2.mono HB1.out.size))
 have HX2 := Lib.hid (HX1.out.below hb2 HX1.out.lt)
 have HY2 := Lib.hid (HY1.out.below hb2 HY1.out.lt)
 clear hb2 HB1 HX1 HY1 
 have x0 := HX2.out.cell 0;have x1 := HX2.out.cell 1;have x2 := HX2.out.cell 2;have x3 := HX2.out.cell 3;have x4 := HX2.out.cell 4;have x5 := HX2.out.cell 5;have x6 := HX2.out.cell 6;have x7 := HX2.out.cell 7;have x8 := HX2.out.cell 8;have x9 := HX2.out.cell 9;have x10 := HX2.out.cell 10;have x11 := HX2.out.cell 11;have x12 := HX2.out.cell 12;simp only [List.getElem?_toArray,List.getElem?_cons_succ,List.getElem?_cons_zero] at x0 x1 x2 x3 x4 x5 x6 x7 x8 x9 x10 x11 x12
 have y0 := HY2.out.cell 0;have y1 := HY2.out.cell 1;have y2 := HY2.out.cell 2;have y3 := HY2.out.cell 3;have y4 := HY2.out.cell 4;have y5 := HY2.out.cell 5;have y6 := HY2.out.cell 6;have y7 := HY2.out.cell 7;have y8 := HY2.out.cell 8;have y9 := HY2.out.cell 9;have y10 := HY2.out.cell 10;have y11 := HY2.out.cell 11;have y12 := HY2.out.cell 12;simp only [List.getElem?_toArray,List.getElem?_cons_succ,List.getElem?_cons_zero] at y0 y1 y2 y3 y4 y5 y6 y7 y8 y9 y10 y11 y12
 go_wp2_with fail
 refine (HLs.out _ HB2.out).mono ?_
 rintro e w3 ⟨q,rfl,hb3⟩
 have HB3 := Lib.hid (HB2.out.trans (hb3.mono HB2.out.size))
 have HX3 := Lib.hid (HX2.out.below hb3 HX2.out.lt)
 have HY3 := Lib.hid (HY2.out.below hb3 HY2.out.lt)
 clear hb3 HB2 HX2 HY2 x0 x1 x2 x3 x4 x5 x6 x7 x8 x9 x10 x11 x12 y0 y1 y2 y3 y4 y5 y6 y7 y8 y9 y10 y11 y12
 have x0 := HX3.out.cell 0;have x1 := HX3.out.cell 1;have x2 := HX3.out.cell 2;have x3 := HX3.out.cell 3;have x4 := HX3.out.cell 4;have x5 := HX3.out.cell 5;have x6 := HX3.out.cell 6;have x7 := HX3.out.cell 7;have x8 := HX3.out.cell 8;have x9 := HX3.out.cell 9;have x10 := HX3.out.cell 10;have x11 := HX3.out.cell 11;have x12 := HX3.out.cell 12;simp only [List.getElem?_toArray,List.getElem?_cons_succ,List.getElem?_cons_zero] at x0 x1 x2 x3 x4 x5 x6 x7 x8 x9 x10 x11 x12
 have y0 := HY3.out.cell 0;have y1 := HY3.out.cell 1;have y2 := HY3.out.cell 2;have y3 := HY3.out.cell 3;have y4 := HY3.out.cell 4;have y5 := HY3.out.cell 5;have y6 := HY3.out.cell 6;have y7 := HY3.out.cell 7;have y8 := HY3.out.cell 8;have y9 := HY3.out.cell 9;have y10 := HY3.out.cell 10;have y11 := HY3.out.cell 11;have y12 := HY3.out.cell 12;simp only [List.getElem?_toArray,List.getElem?_cons_succ,List.getElem?_cons_zero] at y0 y1 y2 y3 y4 y5 y6 y7 y8 y9 y10 y11 y12
 cases q with
 | true =>
  go_wp2_with fail
  go_ret
  exact ⟨rfl,HB3.out⟩
 | false =>
  go_wp2_with fail
  refine (HLt.out _ HB3.out).mono ?_
  rintro e w4 ⟨q,rfl,hb4⟩
  have HB4 := Lib.hid (HB3.out.trans (hb4.mono HB3.out.size))
  have HX4 := Lib.hid (HX3.out.below hb4 HX3.out.lt)
  have HY4 := Lib.hid (HY3.out.below hb4 HY3.out.lt)
  clear hb4 HB3 HX3 HY3 x0 x1 x2 x3 x4 x5 x6 x7 x8 x9 x10 x11 x12 y0 y1 y2 y3 y4 y5 y6 y7 y8 y9 y10 y11 y12
  have x0 := HX4.out.cell 0;have x1 := HX4.out.cell 1;have x2 := HX4.out.cell 2;have x3 := HX4.out.cell 3;have x4 := HX4.out.cell 4;have x5 := HX4.out.cell 5;have x6 := HX4.out.cell 6;have x7 := HX4.out.cell 7;have x8 := HX4.out.cell 8;have x9 := HX4.out.cell 9;have x10 := HX4.out.cell 10;have x11 := HX4.out.cell 11;have x12 := HX4.out.cell 12;simp only [List.getElem?_toArray,List.getElem?_cons_succ,List.getElem?_cons_zero] at x0 x1 x2 x3 x4 x5 x6 x7 x8 x9 x10 x11 x12
  have y0 := HY4.out.cell 0;have y1 := HY4.out.cell 1;have y2 := HY4.out.cell 2;have y3 := HY4.out.cell 3;have y4 := HY4.out.cell 4;have y5 := HY4.out.cell 5;have y6 := HY4.out.cell 6;have y7 := HY4.out.cell 7;have y8 := HY4.out.cell 8;have y9 := HY4.out.cell 9;have y10 := HY4.out.cell 10;have y11 := HY4.out.cell 11;have y12 := HY4.out.cell 12;simp only [List.getElem?_toArray,List.getElem?_cons_succ,List.getElem?_cons_zero] at y0 y1 y2 y3 y4 y5 y6 y7 y8 y9 y10 y11 y12
  cases q with
  | true =>
   go_wp2_with fail
   go_ret
   exact ⟨rfl,HB4.out⟩
  | false =>
   rcases Bool.eq_false_or_eq_true (setB s) with hs | hs
   rotate_left
   ·have hcs := HTs.out _ HB4.out
    have HTt := Lib.hid fun W (hb : Below w.heap.size w W) => HTt.out W hb
    rw [hs] at hcs
    simp only [Bool.false_eq_true,if_false] at hcs
    rcases Bool.eq_false_or_eq_true (setB t) with hu | hu
    ·rw [hu] at HTt
     simp only [if_true] at HTt
     clear hs hu
     go_wp2_with fail
     refine hcs.mono ?_
     rintro e w5 ⟨rfl,hb5⟩
     have HB5 := Lib.hid (HB4.out.trans (hb5.mono HB4.out.size))
     have HX5 := Lib.hid (HX4.out.below hb5 HX4.out.lt)
     have HY5 := Lib.hid (HY4.out.below hb5 HY4.out.lt)
     clear hb5 HB4 HX4 HY4 x0 x1 x2 x3 x4 x5 x6 x7 x8 x9 x10 x11 x12 y0 y1 y2 y3 y4 y5 y6 y7 y8 y9 y10 y11 y12
     have x0 := HX5.out.cell 0;have x1 := HX5.out.cell 1;have x2 := HX5.out.cell 2;have x3 := HX5.out.cell 3;have x4 := HX5.out.cell 4;have x5 := HX5.out.cell 5;have x6 := HX5.out.cell 6;have x7 := HX5.out.cell 7;have x8 := HX5.out.cell 8;have x9 := HX5.out.cell 9;have x10 := HX5.out.cell 10;have x11 := HX5.out.cell 11;have x12 := HX5.out.cell 12;simp only [List.getElem?_toArray,List.getElem?_cons_succ,List.getElem?_cons_zero] at x0 x1 x2 x3 x4 x5 x6 x7 x8 x9 x10 x11 x12
     have y0 := HY5.out.cell 0;have y1 := HY5.out.cell 1;have y2 := HY5.out.cell 2;have y3 := HY5.out.cell 3;have y4 := HY5.out.cell 4;have y5 := HY5.out.cell 5;have y6 := HY5.out.cell 6;have y7 := HY5.out.cell 7;have y8 := HY5.out.cell 8;have y9 := HY5.out.cell 9;have y10 := HY5.out.cell 10;have y11 := HY5.out.cell 11;have y12 := HY5.out.cell 12;simp only [List.getElem?_toArray,List.getElem?_cons_succ,List.getElem?_cons_zero] at y0 y1 y2 y3 y4 y5 y6 y7 y8 y9 y10 y11 y12
     go_wp2_with fail
     refine (HTt.out _ HB5.out).mono ?_
     rintro e w6 ⟨rfl,hb6⟩
     have hbz := HB5.out.trans (hb6.mono HB5.out.size)
     go_wp2_with fail
     go_ret
     exact ⟨rfl,hbz⟩
    ·rw [hu] at HTt
     simp only [Bool.false_eq_true,if_false] at HTt
     clear hs hu
     go_wp2_with fail
     refine hcs.mono ?_
     rintro e w5 ⟨rfl,hb5⟩
     have HB5 := Lib.hid (HB4.out.trans (hb5.mono HB4.out.size))
     have HX5 := Lib.hid (HX4.out.below hb5 HX4.out.lt)
     have HY5 := Lib.hid (HY4.out.below hb5 HY4.out.lt)
     clear hb5 HB4 HX4 HY4 x0 x1 x2 x3 x4 x5 x6 x7 x8 x9 x10 x11 x12 y0 y1 y2 y3 y4 y5 y6 y7 y8 y9 y10 y11 y12
     have x0 := HX5.out.cell 0;have x1 := HX5.out.cell 1;have x2 := HX5.out.cell 2;have x3 := HX5.out.cell 3;have x4 := HX5.out.cell 4;have x5 := HX5.out.cell 5;have x6 := HX5.out.cell 6;have x7 := HX5.out.cell 7;have x8 := HX5.out.cell 8;have x9 := HX5.out.cell 9;have x10 := HX5.out.cell 10;have x11 := HX5.out.cell 11;have x12 := HX5.out.cell 12;simp only [List.getElem?_toArray,List.getElem?_cons_succ,List.getElem?_cons_zero] at x0 x1 x2 x3 x4 x5 x6 x7 x8 x9 x10 x11 x12
     have y0 := HY5.out.cell 0;have y1 := HY5.out.cell 1;have y2 := HY5.out.cell 2;have y3 := HY5.out.cell 3;have y4 := HY5.out.cell 4;have y5 := HY5.out.cell 5;have y6 := HY5.out.cell 6;have y7 := HY5.out.cell 7;have y8 := HY5.out.cell 8;have y9 := HY5.out.cell 9;have y10 := HY5.out.cell 10;have y11 := HY5.out.cell 11;have y12 := HY5.out.cell 12;simp only [List.getElem?_toArray,List.getElem?_cons_succ,List.getElem?_cons_zero] at y0 y1 y2 y3 y4 y5 y6 y7 y8 y9 y10 y11 y12
     go_wp2_with fail
     refine (HTt.out _ HB5.out).mono ?_
     rintro e w6 ⟨rfl,hb6⟩
     have hbz := HB5.out.trans (hb6.mono HB5.out.size)
     go_wp2_with fail
     go_ret
     exact ⟨rfl,hbz⟩
   have hcs := HTs.out _ HB4.out
   rw [hs] at hcs
   simp only [if_true] at hcs
   have HHs := Lib.hid hs
   clear hs
   go_wp2_with fail
   refine hcs.mono ?_
   rintro e w5 ⟨rfl,hb5⟩
   have HB5 := Lib.hid (HB4.out.trans (hb5.mono HB4.out.size))
   have HX5 := Lib.hid (HX4.out.below hb5 HX4.out.lt)
   have HY5 := Lib.hid (HY4.out.below hb5 HY4.out.lt)
   clear hb5 HB4 HX4 HY4 x0 x1 x2 x3 x4 x5 x6 x7 x8 x9 x10 x11 x12 y0 y1 y2 y3 y4 y5 y6 y7 y8 y9 y10 y11 y12
   have x0 := HX5.out.cell 0;have x1 := HX5.out.cell 1;have x2 := HX5.out.cell 2;have x3 := HX5.out.cell 3;have x4 := HX5.out.cell 4;have x5 := HX5.out.cell 5;have x6 := HX5.out.cell 6;have x7 := HX5.out.cell 7;have x8 := HX5.out.cell 8;have x9 := HX5.out.cell 9;have x10 := HX5.out.cell 10;have x11 := HX5.out.cell 11;have x12 := HX5.out.cell 12;simp only [List.getElem?_toArray,List.getElem?_cons_succ,List.getElem?_cons_zero] at x0 x1 x2 x3 x4 x5 x6 x7 x8 x9 x10 x11 x12
   have y0 := HY5.out.cell 0;have y1 := HY5.out.cell 1;have y2 := HY5.out.cell 2;have y3 := HY5.out.cell 3;have y4 := HY5.out.cell 4;have y5 := HY5.out.cell 5;have y6 := HY5.out.cell 6;have y7 := HY5.out.cell 7;have y8 := HY5.out.cell 8;have y9 := HY5.out.cell 9;have y10 := HY5.out.cell 10;have y11 := HY5.out.cell 11;have y12 := HY5.out.cell 12;simp only [List.getElem?_toArray,List.getElem?_cons_succ,List.getElem?_cons_zero] at y0 y1 y2 y3 y4 y5 y6 y7 y8 y9 y10 y11 y12
   have hct := HTt.out _ HB5.out
   rcases Bool.eq_false_or_eq_true (setB t) with hu | hu
   rotate_left
   ·rw [hu] at hct
    simp only [Bool.false_eq_true,if_false] at hct
    clear hu
    go_wp2_with fail
    refine hct.mono ?_
    rintro e w6 ⟨rfl,hb6⟩
    have hbz := HB5.out.trans (hb6.mono HB5.out.size)
    go_wp2_with fail
    go_ret
    exact ⟨rfl,hbz⟩
   rw [hu] at hct
   simp only [if_true] at hct
   have HHu := Lib.hid hu
   clear hu
   go_wp2_with fail
   refine hct.mono ?_
   rintro e w6 ⟨rfl,hb6⟩
   have HB6 := Lib.hid (HB5.out.trans (hb6.mono HB5.out.size))
   have HX6 := Lib.hid (HX5.out.below hb6 HX5.out.lt)
   have HY6 := Lib.hid (HY5.out.below hb6 HY5.out.lt)
   clear hb6 HB5 HX5 HY5 x0 x1 x2 x3 x4 x5 x6 x7 x8 x9 x10 x11 x12 y0 y1 y2 y3 y4 y5 y6 y7 y8 y9 y10 y11 y12
   have x0 := HX6.out.cell 0;have x1 := HX6.out.cell 1;have x2 := HX6.out.cell 2;have x3 := HX6.out.cell 3;have x4 := HX6.out.cell 4;have x5 := HX6.out.cell 5;have x6 := HX6.out.cell 6;have x7 := HX6.out.cell 7;have x8 := HX6.out.cell 8;have x9 := HX6.out.cell 9;have x10 := HX6.out.cell 10;have x11 := HX6.out.cell 11;have x12 := HX6.out.cell 12;simp only [List.getElem?_toArray,List.getElem?_cons_succ,List.getElem?_cons_zero] at x0 x1 x2 x3 x4 x5 x6 x7 x8 x9 x10 x11 x12
   have y0 := HY6.out.cell 0;have y1 := HY6.out.cell 1;have y2 := HY6.out.cell 2;have y3 := HY6.out.cell 3;have y4 := HY6.out.cell 4;have y5 := HY6.out.cell 5;have y6 := HY6.out.cell 6;have y7 := HY6.out.cell 7;have y8 := HY6.out.cell 8;have y9 := HY6.out.cell 9;have y10 := HY6.out.cell 10;have y11 := HY6.out.cell 11;have y12 := HY6.out.cell 12;simp only [List.getElem?_toArray,List.getElem?_cons_succ,List.getElem?_cons_zero] at y0 y1 y2 y3 y4 y5 y6 y7 y8 y9 y10 y11 y12
   have hs := HHs.out
   have hu := HHu.out
   have hte := textB_eq hs hu
   have hcu := textB_count hs
   have hpr := textB_pre s
   have i40 := (setB_ok hs).wts.1
   have b8 := (bricks_facts hs).1
   have n20 := name_size (setB_name hs)
   clear hs hu hct
   have hSm := HeldB.call (fun w' (hb : Below w6.heap.size w6 w') => HSa.out w' (HB6.out.trans (hb.mono HB6.out.size)))
   have hCn := HeldB.call (W := w6) (fun w' (hb : Below w6.heap.size w6 w') => (strCount (textB s) 10 w').mono fun e w'' ⟨he,hw⟩ => ⟨he,hw ▸ Below.refl _ _⟩)
   have hPr := HeldB.call (W := w6) (fun w' (hb : Below w6.heap.size w6 w') => (strPrefix (textB s) (⟨#[115,101,116,32]⟩ ++ s.name ++ ⟨#[32]⟩) w').mono fun e w'' ⟨he,hw⟩ => ⟨he,hw ▸ Below.refl _ _⟩)
   rw [hpr] at hPr
   generalize (((textB s).data.toList.count 10 : Nat) : Int) = cn at *
   have hc1 := fun W => run_string_add_sum (P := Tryz.prog) W ⟨#[115,101,116,32]⟩ s.name (by show 4 + s.name.size ≤ _;omega)
   have hc2 := fun W => run_string_add_sum (P := Tryz.prog) W (⟨#[115,101,116,32]⟩ ++ s.name) ⟨#[32]⟩ (by rw [ByteArray.size_append];show 4 + s.name.size + 1 ≤ _;omega)
   generalize (⟨#[115,101,116,32]⟩ ++ s.name ++ ⟨#[32]⟩ : ByteArray) = pre at *
   have s1 : IntKind.i64.wrap (2 + (s.items.length : Int)) = 2 + (s.items.length : Int) := IntWalk.i64_in _ (by omega)
   have s2 : IntKind.i64.wrap (2 + (s.items.length : Int) + (s.bricks.length : Int)) = 2 + (s.items.length : Int) + (s.bricks.length : Int) := IntWalk.i64_in _ (by omega)
   have hcb : (cn == 2 + (s.items.length : Int) + (s.bricks.length : Int)) = true := beq_iff_eq.2 hcu
   have p0 := HeldB.cell x0
   have p1 := HeldB.cell x1
   have p2 := HeldB.cell x2
   have p3 := HeldB.cell x3
   have p4 := HeldB.cell x4
   have p5 := HeldB.cell x5
   have p6 := HeldB.cell x6
   have p7 := HeldB.cell x7
   have p8 := HeldB.cell x8
   have p9 := HeldB.cell x9
   have p10 := HeldB.cell x10
   have p11 := HeldB.cell x11
   have p12 := HeldB.cell x12
   have q0 := HeldB.cell y0
   have q1 := HeldB.cell y1
   have q2 := HeldB.cell y2
   have q3 := HeldB.cell y3
   have q4 := HeldB.cell y4
   have q5 := HeldB.cell y5
   have q6 := HeldB.cell y6
   have q7 := HeldB.cell y7
   have q8 := HeldB.cell y8
   have q9 := HeldB.cell y9
   have q10 := HeldB.cell y10
   have q11 := HeldB.cell y11
   have q12 := HeldB.cell y12
   clear hcu x0 x1 x2 x3 x4 x5 x6 x7 x8 x9 x10 x11 x12 y0 y1 y2 y3 y4 y5 y6 y7 y8 y9 y10 y11 y12 HLs HLt HTs HTt HSa HX6 HY6
   generalize decide (s = t) = sb at *
   go_wp2_with fail
   cases sb with
   | true =>
    refine wp_region_heldb (by kernel_rfl) (by kernel_rfl) ?_
    repeat (go_big_quiet_step ((first | (go_at_call 49;exact hSm _) | (go_at_call 52;exact hCn _) | (go_at_call 53;exact hPr _))))
    refine wpQuiet_nil ?_
    rintro _ ⟨⟨w7,hb7⟩,rfl⟩
    have hbz := HB6.out.trans (hb7.mono HB6.out.size)
    go_wp2_with fail
    go_ret
    exact ⟨rfl,hbz⟩
   | false =>
    refine wp_region_heldb (by kernel_rfl) (by kernel_rfl) ?_
    repeat (go_big_quiet_step ((first | (go_at_call 49;exact hSm _) | (go_at_call 52;exact hCn _) | (go_at_call 53;exact hPr _))))
    refine wpQuiet_nil ?_
    rintro _ ⟨⟨w7,hb7⟩,rfl⟩
    have hbz := HB6.out.trans (hb7.mono HB6.out.size)
    go_wp2_with fail
    go_ret
    exact ⟨rfl,hbz⟩
end Go.Proofs.YtbhmkcjddpniiaaGreatDoor
