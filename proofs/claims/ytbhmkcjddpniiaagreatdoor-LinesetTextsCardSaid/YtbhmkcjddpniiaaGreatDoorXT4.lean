/- Parts of the proof, laid into one text: LawTexts. -/
import Derived.BigQuiet
import Derived.Deep.AppendLies
import Derived.Deep.Cut
import Derived.Deep.Draws
import Derived.Deep.LoopGhost
import Derived.Deep.MidRow
import Derived.Deep.QuietTactic
import Derived.Deep.RegionHeld3
import Derived.Deep.RegionLaw
import Derived.IntWalk
import Derived.Laws.Bits64b
import Derived.Laws.Concat
import Derived.Laws.EntriesVeiled
import Derived.Laws.IdiomStrings
import Derived.Lib.AppendIntMem
import Derived.Lib.Hide
import Derived.Lib.ItoaLen
import Derived.Lib.ItoaMem
import Derived.Lib.Join
import Derived.Lib.SmallJoins
import Derived.LoopIn
import Derived.LoopNIn
import Derived.Maps.AppendAt
import Derived.Maps.Own
import Derived.Maps.OwnOps
import Derived.Maps.OwnSet
import Derived.Maps.Views
import Derived.Outline
import Derived.OwnWalkIn
import Derived.PlainAid
import Derived.RangeFuncBox
import Derived.RangeFuncLeaves
import Derived.Shelf.Abstract
import Derived.Shelf.Bits.Mul64
import Derived.Shelf.Strconv.Itoa3
import Derived.Shelf.Strings.Count
import Derived.Shelf.Strings.OnBuilder
import Derived.Shelf.Strings.Prefix
import Derived.StillTail
import Derived.StillTailTactics
import Derived.TacticsInMore
import Derived.Test.YtbhmkcjddpniiaaGreatDoorProg
import Derived.Test.YtbhmkcjddpniiaaGreatDoorXC1
import Derived.Test.YtbhmkcjddpniiaaGreatDoorXC2
import Derived.Test.YtbhmkcjddpniiaaGreatDoorXC3
import Derived.Test.YtbhmkcjddpniiaaGreatDoorXC4
import Derived.Test.YtbhmkcjddpniiaaGreatDoorXC5
import Derived.Test.YtbhmkcjddpniiaaGreatDoorXC6
import Derived.Test.YtbhmkcjddpniiaaGreatDoorXC7
import Derived.Test.YtbhmkcjddpniiaaGreatDoorXD1
import Derived.Test.YtbhmkcjddpniiaaGreatDoorXD2
import Derived.Test.YtbhmkcjddpniiaaGreatDoorXD3
import Derived.Test.YtbhmkcjddpniiaaGreatDoorXD4
import Derived.Test.YtbhmkcjddpniiaaGreatDoorXD5
import Derived.Test.YtbhmkcjddpniiaaGreatDoorXD6
import Derived.Test.YtbhmkcjddpniiaaGreatDoorXD9
import Derived.Test.YtbhmkcjddpniiaaGreatDoorXG1
import Derived.Test.YtbhmkcjddpniiaaGreatDoorXI1
import Derived.Test.YtbhmkcjddpniiaaGreatDoorXI2
import Derived.Test.YtbhmkcjddpniiaaGreatDoorXI3
import Derived.Test.YtbhmkcjddpniiaaGreatDoorXI6
import Derived.Test.YtbhmkcjddpniiaaGreatDoorXT0
import Derived.Test.YtbhmkcjddpniiaaGreatDoorXT1
import Derived.Test.YtbhmkcjddpniiaaGreatDoorXT2
import Derived.Test.YtbhmkcjddpniiaaGreatDoorXT3
import Derived.WalkKit
import Derived.WalkLawsBesides
import Derived.WalkSpells

namespace Go.Proofs.YtbhmkcjddpniiaaGreatDoor
open Go.RowKit Go.Shelf
theorem lawLargeB (v : Value) (s : SetT) (w : World) (hv : SetAt w w.heap.size v s) (hn : SetNames s) : Calls Tryz.prog 13 #[v] w fun e w' => ∃ q : Bool, e = .returned (.bool q) ∧ Below w.heap.size w w' ∧ (q = false → lensOk s) := by
  have HS := fun W (hb : Below w.heap.size w W) => refSmallB v s 8 W ((hv.below hb (Nat.le_refl _)).mono hb.size) hn.name hn.items hn.bricks
  obtain ⟨Al, cl, Ai, ci, Ab, cb, rfl, -, -, -⟩ := hv
  have HB1 := Lib.hid ((Below.refl _ w).alloc (Nat.le_refl _) (.cells #[.string s.name, .int .i64 s.depth, .int .i64 s.low, .int .i64 s.high, .int .i64 s.len, .slice Al s.lines.length cl, .int .i64 s.pipe, .int .i64 s.arbor, .int .i64 s.purch, .int .i64 s.most, .int .i64 s.brake, .slice Ai s.items.length ci, .slice Ab s.bricks.length cb] 26))
  have hs := HS _ HB1.out
  clear HS hn
  unfold setVal at *
  go_enter Tryz.func13, Tryz.ntmps13
  go_wp2_with fail
  refine hs.mono ?_
  rintro e w2 ⟨q, rfl, hb2, hl⟩
  have hb := HB1.out.trans (hb2.mono HB1.out.size)
  have HQ : Hid ((!q) = false → lensOk s) := fun h => hl (by cases q; · cases h
                                                             · rfl)
  clear hl
  go_wp2_with fail
  go_ret
  exact ⟨_, rfl, hb, HQ.out⟩
theorem ext_form (s : SetT) (trim : Int) : ∃ a0 a1 b0 b1 er,extV s trim = .tuple #[spanV a0 a1,spanV b0 b1,.int .i64 er] ∧ ((setB s = false → a0 = 0 ∧ a1 = 0 ∧ b0 = 0 ∧ b1 = 0 ∧ er = 1) ∧ (setB s = true → trimB s trim = true → a0 = 0 ∧ a1 = 0 ∧ b0 = 0 ∧ b1 = 0 ∧ er = 2) ∧
  (setB s = true → trimB s trim = false → spanV (trim - mxN ItemT.hang s.items) trim = spanV a0 a1 ∧ spanV (s.depth - mxN ItemT.back s.items) (s.depth + mxN ItemT.front s.items) = spanV b0 b1 ∧ er = 0)) := by
 rcases Bool.eq_false_or_eq_true (setB s) with h | h
 ·rcases Bool.eq_false_or_eq_true (trimB s trim) with k | k
  ·exact ⟨_,_,_,_,_,ext_out h k,fun h' => (by rw [h] at h';cases h'),fun _ _ => ⟨rfl,rfl,rfl,rfl,rfl⟩,fun _ k' => (by rw [k] at k';cases k')⟩
  ·exact ⟨_,_,_,_,_,ext_in h k,fun h' => (by rw [h] at h';cases h'),fun _ k' => (by rw [k] at k';cases k'),fun _ _ => ⟨rfl,rfl,rfl⟩⟩
 ·exact ⟨_,_,_,_,_,ext_no h,fun _ => ⟨rfl,rfl,rfl,rfl,rfl⟩,fun h' => (by rw [h] at h';cases h'),fun h' => (by rw [h] at h';cases h')⟩
theorem text_form (s : SetT) : ∃ (tx : ByteArray) (tf : Int),(if setB s = true then Value.tuple #[.string ⟨(setText s).toArray⟩,.int .i64 0] else .tuple #[.string ⟨#[]⟩,.int .i64 1]) = .tuple #[.string tx,.int .i64 tf] ∧ ((setB s = false → tx = ⟨#[]⟩ ∧ tf = 1) ∧ (setB s = true → tx = ⟨(setText s).toArray⟩ ∧ tf = 0)) := by
 rcases Bool.eq_false_or_eq_true (setB s) with h | h
 ·exact ⟨_,_,by rw [if_pos h],fun h' => (by rw [h] at h';cases h'),fun _ => ⟨rfl,rfl⟩⟩
 ·exact ⟨_,_,by rw [h,if_neg (by decide)],fun _ => ⟨rfl,rfl⟩,fun h' => (by rw [h] at h';cases h')⟩
def gBl (b : Bool) : GPost := ⟨fun v => v = .bool b,fun _ _ => True,⟨_,rfl⟩,fun _ _ _ _ h => h,false⟩
def gCp (s : SetT) : GPost := ⟨fun v => ∃ A1 k1 A2 k2 A3 k3,v = setVal s A1 k1 A2 k2 A3 k3,fun v w => SetAt w w.heap.size v s,⟨_,none,0,none,0,none,0,rfl⟩,fun _ _ _ hb h => (h.below hb (Nat.le_refl _)).mono hb.size,false⟩
theorem gCp_post {s : SetT} {w w' : World} {e : Ending} (h : CopyPost s w e w') : ∃ v,e = .returned v ∧ Below w.heap.size w w' ∧ (gCp s).σ v ∧ (gCp s).φ v w' := by
 obtain ⟨hb,A1,k1,A2,k2,A3,k3,he,o1,o2,o3⟩ := h
 exact ⟨_,he,hb,⟨_,_,_,_,_,_,rfl⟩,⟨_,_,_,_,_,_,rfl,Flat.of_own o1,Flat.of_own o2,Flat.of_own o3⟩⟩
set_option maxRecDepth 100000 in
set_option maxHeartbeats 16000000 in
theorem lawTexts (v1 v2 : Value) (s t : SetT) (trim : Int) (w : World) (h1 : SetAt w w.heap.size v1 s) (h2 : SetAt w w.heap.size v2 t) (n1 : SetNames s) (n2 : SetNames t) (ht : Tab w) :
  Calls Tryz.prog 10 #[v1,v2,.int .i64 trim] w fun e w' => e = .returned (.bool true) ∧ Below w.heap.size w w' := by
 have HT := Lib.hid fun W (hb : Below w.heap.size w W) => ht.below hb
 have HXs := Lib.hid fun W (hb : Below w.heap.size w W) => (h1.below hb (Nat.le_refl _)).mono hb.size
 have HYs := Lib.hid fun W (hb : Below w.heap.size w W) => (h2.below hb (Nat.le_refl _)).mono hb.size
 obtain ⟨Al,cl,Ai,ci,Ab,cb,rfl,-,-,-⟩ := h1
 obtain ⟨Bl,dl,Bi,di,Bb,db,rfl,-,-,-⟩ := h2
 have HXn := Lib.hid n1
 have HYn := Lib.hid n2
 have hba := ((Below.refl _ w).alloc (Nat.le_refl _) (.cells #[.string s.name,.int .i64 s.depth,.int .i64 s.low,.int .i64 s.high,.int .i64 s.len,.slice Al s.lines.length cl,.int .i64 s.pipe,.int .i64 s.arbor,.int .i64 s.purch,.int .i64 s.most,.int .i64 s.brake,.slice Ai s.items.length ci,.slice Ab s.bricks.length cb] 26)).alloc (by simp) (.cells #[.string t.name,.int .i64 t.depth,.int .i64 t.low,.int .i64 t.high,.int .i64 t.len,.slice Bl t.lines.length dl,.int .i64 t.pipe,.int .i64 t.arbor,.int .i64 t.purch,.int .i64 t.most,.int .i64 t.brake,.slice Bi t.items.length di,.slice Bb t.bricks.length db] 26)
 have hAw := lawAwake29 ((w.alloc (.cells #[.string s.name,.int .i64 s.depth,.int .i64 s.low,.int .i64 s.high,.int .i64 s.len,.slice Al s.lines.length cl,.int .i64 s.pipe,.int .i64 s.arbor,.int .i64 s.purch,.int .i64 s.most,.int .i64 s.brake,.slice Ai s.items.length ci,.slice Ab s.bricks.length cb] 26)).alloc (.cells #[.string t.name,.int .i64 t.depth,.int .i64 t.low,.int .i64 t.high,.int .i64 t.len,.slice Bl t.lines.length dl,.int .i64 t.pipe,.int .i64 t.arbor,.int .i64 t.purch,.int .i64 t.most,.int .i64 t.brake,.slice Bi t.items.length di,.slice Bb t.bricks.length db] 26))
 have HBa := Lib.hid hba
 have HX := Lib.hid ((Blk.new w 26 #[.string s.name,.int .i64 s.depth,.int .i64 s.low,.int .i64 s.high,.int .i64 s.len,.slice Al s.lines.length cl,.int .i64 s.pipe,.int .i64 s.arbor,.int .i64 s.purch,.int .i64 s.most,.int .i64 s.brake,.slice Ai s.items.length ci,.slice Ab s.bricks.length cb]).alloc (.cells #[.string t.name,.int .i64 t.depth,.int .i64 t.low,.int .i64 t.high,.int .i64 t.len,.slice Bl t.lines.length dl,.int .i64 t.pipe,.int .i64 t.arbor,.int .i64 t.purch,.int .i64 t.most,.int .i64 t.brake,.slice Bi t.items.length di,.slice Bb t.bricks.length db] 26))
 have hy := Blk.new (w.alloc (.cells #[.string s.name,.int .i64 s.depth,.int .i64 s.low,.int .i64 s.high,.int .i64 s.len,.slice Al s.lines.length cl,.int .i64 s.pipe,.int .i64 s.arbor,.int .i64 s.purch,.int .i64 s.most,.int .i64 s.brake,.slice Ai s.items.length ci,.slice Ab s.bricks.length cb] 26)) 26 #[.string t.name,.int .i64 t.depth,.int .i64 t.low,.int .i64 t.high,.int .i64 t.len,.slice Bl t.lines.length dl,.int .i64 t.pipe,.int .i64 t.arbor,.int .i64 t.purch,.int .i64 t.most,.int .i64 t.brake,.slice Bi t.items.length di,.slice Bb t.bricks.length db]
 rw [World.size_alloc] at hy
 have HY := Lib.hid hy
 clear ht n1 n2 hba hy
 unfold setVal at *
 go_enter Tryz.func10,Tryz.ntmps10
 go_wp2_with fail
 generalize ((w.alloc (.cells #[.string s.name,.int .i64 s.depth,.int .i64 s.low,.int .i64 s.high,.int .i64 s.len,.slice Al s.lines.length cl,.int .i64 s.pipe,.int .i64 s.arbor,.int .i64 s.purch,.int .i64 s.most,.int .i64 s.brake,.slice Ai s.items.length ci,.slice Ab s.bricks.length cb] 26)).alloc (.cells #[.string t.name,.int .i64 t.depth,.int .i64 t.low,.int .i64 t.high,.int .i64 t.len,.slice Bl t.lines.length dl,.int .i64 t.pipe,.int .i64 t.arbor,.int .i64 t.purch,.int .i64 t.most,.int .i64 t.brake,.slice Bi t.items.length di,.slice Bb t.bricks.length db] 26)) = w0 at *
 refine hAw.mono ?_
 rintro e w1 ⟨rfl,hb1⟩
 replace HBa := Lib.hid (HBa.out.trans (hb1.mono HBa.out.size))
 replace HX := Lib.hid (HX.out.below hb1 HX.out.lt)
 replace HY := Lib.hid (HY.out.below hb1 HY.out.lt)
 have hLg := lawLargeB _ s w1 (HXs.out _ HBa.out) HXn.out
 clear hAw hb1
 have p0 := HX.out.cell 0
 have p1 := HX.out.cell 1
 have p2 := HX.out.cell 2
 have p3 := HX.out.cell 3
 have p4 := HX.out.cell 4
 have p5 := HX.out.cell 5
 have p6 := HX.out.cell 6
 have p7 := HX.out.cell 7
 have p8 := HX.out.cell 8
 have p9 := HX.out.cell 9
 have p10 := HX.out.cell 10
 have p11 := HX.out.cell 11
 have p12 := HX.out.cell 12
 simp only [List.getElem?_toArray,List.getElem?_cons_succ,List.getElem?_cons_zero] at p0 p1 p2 p3 p4 p5 p6 p7 p8 p9 p10 p11 p12
 go_wp2_with fail
 refine hLg.mono ?_
 rintro e w2 ⟨q,rfl,hb2,hl⟩
 have HL := Lib.hid hl
 clear hLg hl p0 p1 p2 p3 p4 p5 p6 p7 p8 p9 p10 p11 p12
 replace HBa := Lib.hid (HBa.out.trans (hb2.mono HBa.out.size))
 replace HX := Lib.hid (HX.out.below hb2 HX.out.lt)
 replace HY := Lib.hid (HY.out.below hb2 HY.out.lt)
 clear hb2
 cases q with
 | true =>
  go_wp2_with fail
  go_ret
  exact ⟨rfl,HBa.out⟩
 | false =>
  replace HL := Lib.hid (HL.out rfl)
  have hLg := lawLarge29 _ t w2 (HYs.out _ HBa.out) HYn.out
  have q0 := HY.out.cell 0
  have q1 := HY.out.cell 1
  have q2 := HY.out.cell 2
  have q3 := HY.out.cell 3
  have q4 := HY.out.cell 4
  have q5 := HY.out.cell 5
  have q6 := HY.out.cell 6
  have q7 := HY.out.cell 7
  have q8 := HY.out.cell 8
  have q9 := HY.out.cell 9
  have q10 := HY.out.cell 10
  have q11 := HY.out.cell 11
  have q12 := HY.out.cell 12
  simp only [List.getElem?_toArray,List.getElem?_cons_succ,List.getElem?_cons_zero] at q0 q1 q2 q3 q4 q5 q6 q7 q8 q9 q10 q11 q12
  go_wp2_with fail
  refine hLg.mono ?_
  rintro e w3 ⟨q,rfl,hb3⟩
  clear hLg q0 q1 q2 q3 q4 q5 q6 q7 q8 q9 q10 q11 q12
  replace HBa := Lib.hid (HBa.out.trans (hb3.mono HBa.out.size))
  replace HX := Lib.hid (HX.out.below hb3 HX.out.lt)
  replace HY := Lib.hid (HY.out.below hb3 HY.out.lt)
  clear hb3
  cases q with
  | true =>
   go_wp2_with fail
   go_ret
   exact ⟨rfl,HBa.out⟩
  | false =>
   have hEx := lsExtent _ s trim w3 (HXs.out _ HBa.out) HXn.out
   obtain ⟨a0,a1,b0,b1,er,hev,hcs⟩ := ext_form s trim
   rw [hev] at hEx
   have HCs := Lib.hid hcs
   clear hev hcs
   have p0 := HX.out.cell 0
   have p1 := HX.out.cell 1
   have p2 := HX.out.cell 2
   have p3 := HX.out.cell 3
   have p4 := HX.out.cell 4
   have p5 := HX.out.cell 5
   have p6 := HX.out.cell 6
   have p7 := HX.out.cell 7
   have p8 := HX.out.cell 8
   have p9 := HX.out.cell 9
   have p10 := HX.out.cell 10
   have p11 := HX.out.cell 11
   have p12 := HX.out.cell 12
   simp only [List.getElem?_toArray,List.getElem?_cons_succ,List.getElem?_cons_zero] at p0 p1 p2 p3 p4 p5 p6 p7 p8 p9 p10 p11 p12
   go_wp2_with fail
   refine hEx.mono ?_
   rintro e w4 ⟨rfl,hb4⟩
   have hb5 := (hb4.alloc hb4.size (.cells #[.int .i64 a0,.int .i64 a1] 91)).alloc (Nat.le_trans hb4.size (by simp)) (.cells #[.int .i64 b0,.int .i64 b1] 91)
   have HG7 := Lib.hid ((Blk.new w4 91 #[.int .i64 a0,.int .i64 a1]).alloc (.cells #[.int .i64 b0,.int .i64 b1] 91))
   have hg8 := Blk.new (w4.alloc (.cells #[.int .i64 a0,.int .i64 a1] 91)) 91 #[.int .i64 b0,.int .i64 b1]
   rw [World.size_alloc] at hg8
   have HG8 := Lib.hid hg8
   clear hEx hb4 hg8 p0 p1 p2 p3 p4 p5 p6 p7 p8 p9 p10 p11 p12
   replace HBa := Lib.hid (HBa.out.trans (hb5.mono HBa.out.size))
   replace HX := Lib.hid (HX.out.below hb5 HX.out.lt)
   replace HY := Lib.hid (HY.out.below hb5 HY.out.lt)
   clear hb5
   go_upto_region 6 with fail
   generalize ((w4.alloc (.cells #[.int .i64 a0,.int .i64 a1] 91)).alloc (.cells #[.int .i64 b0,.int .i64 b1] 91)) = w5 at *
   generalize w4.heap.size = g7 at *
   have hTx := lsText _ s w5 (HXs.out _ HBa.out) HXn.out (HT.out _ HBa.out)
   obtain ⟨tx,tf,htv,hts⟩ := text_form s
   rw [htv] at hTx
   have HTs := Lib.hid hts
   clear htv hts
   have p0 := HX.out.cell 0
   have p1 := HX.out.cell 1
   have p2 := HX.out.cell 2
   have p3 := HX.out.cell 3
   have p4 := HX.out.cell 4
   have p5 := HX.out.cell 5
   have p6 := HX.out.cell 6
   have p7 := HX.out.cell 7
   have p8 := HX.out.cell 8
   have p9 := HX.out.cell 9
   have p10 := HX.out.cell 10
   have p11 := HX.out.cell 11
   have p12 := HX.out.cell 12
   simp only [List.getElem?_toArray,List.getElem?_cons_succ,List.getElem?_cons_zero] at p0 p1 p2 p3 p4 p5 p6 p7 p8 p9 p10 p11 p12
   go_wp2_with fail
   refine hTx.mono ?_
   rintro e w6 ⟨rfl,hb6⟩
   replace HG7 := Lib.hid (HG7.out.below hb6 HG7.out.lt)
   replace HG8 := Lib.hid (HG8.out.below hb6 HG8.out.lt)
   clear hTx p0 p1 p2 p3 p4 p5 p6 p7 p8 p9 p10 p11 p12
   replace HBa := Lib.hid (HBa.out.trans (hb6.mono HBa.out.size))
   replace HX := Lib.hid (HX.out.below hb6 HX.out.lt)
   replace HY := Lib.hid (HY.out.below hb6 HY.out.lt)
   clear hb6
   have hx0 := HX.out
   have hy0 := HY.out
   have x0 := hx0.cell 0
   have x1 := hx0.cell 1
   have x2 := hx0.cell 2
   have x3 := hx0.cell 3
   have x4 := hx0.cell 4
   have x5 := hx0.cell 5
   have x6 := hx0.cell 6
   have x7 := hx0.cell 7
   have x8 := hx0.cell 8
   have x9 := hx0.cell 9
   have x10 := hx0.cell 10
   have x11 := hx0.cell 11
   have x12 := hx0.cell 12
   have z0 := hy0.cell 0
   have z1 := hy0.cell 1
   have z2 := hy0.cell 2
   have z3 := hy0.cell 3
   have z4 := hy0.cell 4
   have z5 := hy0.cell 5
   have z6 := hy0.cell 6
   have z7 := hy0.cell 7
   have z8 := hy0.cell 8
   have z9 := hy0.cell 9
   have z10 := hy0.cell 10
   have z11 := hy0.cell 11
   have z12 := hy0.cell 12
   simp only [List.getElem?_toArray,List.getElem?_cons_succ,List.getElem?_cons_zero] at x0 x1 x2 x3 x4 x5 x6 x7 x8 x9 x10 x11 x12 z0 z1 z2 z3 z4 z5 z6 z7 z8 z9 z10 z11 z12
   have p0 := HeldB.cell x0
   have p1 := HeldB.cell x1
   have p2 := HeldB.cell x2
   have p3 := HeldB.cell x3
   have p4 := HeldB.cell x4
   have p5 := HeldB.cell x5
   have p6 := HeldB.cell x6
   have p7 := HeldB.cell x7
   have p8 := HeldB.cell x8
   have p9 := HeldB.cell x9
   have p10 := HeldB.cell x10
   have p11 := HeldB.cell x11
   have p12 := HeldB.cell x12
   have q0 := HeldB.cell z0
   have q1 := HeldB.cell z1
   have q2 := HeldB.cell z2
   have q3 := HeldB.cell z3
   have q4 := HeldB.cell z4
   have q5 := HeldB.cell z5
   have q6 := HeldB.cell z6
   have q7 := HeldB.cell z7
   have q8 := HeldB.cell z8
   have q9 := HeldB.cell z9
   have q10 := HeldB.cell z10
   have q11 := HeldB.cell z11
   have q12 := HeldB.cell z12
   have HSa := Lib.hid fun W (hb : Below w6.heap.size w6 W) => lsSame _ _ s t W (HXs.out W (HBa.out.trans (hb.mono HBa.out.size))) (HYs.out W (HBa.out.trans (hb.mono HBa.out.size)))
   have HRa := Lib.hid fun W (hb : Below w6.heap.size w6 W) => refSame21 _ _ s t W (HXs.out W (HBa.out.trans (hb.mono HBa.out.size))) (HYs.out W (HBa.out.trans (hb.mono HBa.out.size)))
   have HCo := Lib.hid fun W (hb : Below w6.heap.size w6 W) => refCopy21 _ s W (HXs.out W (HBa.out.trans (hb.mono HBa.out.size))) HL.out.1 HL.out.2.1 HL.out.2.2
   have HSc := Lib.hid fun u W (hb : Below w6.heap.size w6 W) (hu : SetAt W W.heap.size u s) => lsSame _ u s s W (HXs.out W (HBa.out.trans (hb.mono HBa.out.size))) hu
   rw [decide_eq_true rfl] at HSc
   generalize decide (s = t) = sb at *
   have nb : (!(sb == sb)) = false := by cases sb <;> rfl
   have nb2 : (sb != sb) = false := by cases sb <;> rfl
   clear hx0 hy0 x0 x1 x2 x3 x4 x5 x6 x7 x8 x9 x10 x11 x12 z0 z1 z2 z3 z4 z5 z6 z7 z8 z9 z10 z11 z12
   go_wp2_with fail
   refine wp_region_grow 13 (fun jx => if jx = 2 then some (gBl sb) else if jx = 5 then some (gBl sb) else if jx = 10 then some (gCp s) else if jx = 11 then some (gBl true) else none) (by kernel_rfl) (by kernel_rfl) ?_
   simp only [List.take_succ_cons,List.take_zero,List.drop_succ_cons,List.drop_zero]
   first | refine wpG_quiet1W (by first | rfl | go_simp) rfl rfl ?_ | refine wpG_pickW rfl (by first | rfl | go_simp) rfl ?_
   go_big_quiet_step (fail)
   refine wpQuiet_nil ?_
   first | refine wpG_quiet1W (by first | rfl | go_simp) rfl rfl ?_ | refine wpG_pickW rfl (by first | rfl | go_simp) rfl ?_
   go_big_quiet_step (fail)
   refine wpQuiet_nil ?_
   refine wpG_callW (by first | rfl | go_simp) rfl (fun w1 hb1 _ => ⟨49,#[.agg #[.string s.name,.int .i64 s.depth,.int .i64 s.low,.int .i64 s.high,.int .i64 s.len,.slice Al s.lines.length cl,.int .i64 s.pipe,.int .i64 s.arbor,.int .i64 s.purch,.int .i64 s.most,.int .i64 s.brake,.slice Ai s.items.length ci,.slice Ab s.bricks.length cb],.agg #[.string t.name,.int .i64 t.depth,.int .i64 t.low,.int .i64 t.high,.int .i64 t.len,.slice Bl t.lines.length dl,.int .i64 t.pipe,.int .i64 t.arbor,.int .i64 t.purch,.int .i64 t.most,.int .i64 t.brake,.slice Bi t.items.length di,.slice Bb t.bricks.length db]],by go_simp,(HSa.out w1 hb1).mono fun _ _ hp => ⟨_,hp.1,hp.2,rfl,trivial⟩⟩) ?_
   rintro _ rfl
   simp only [Act.put,List.setIfInBounds_toArray,List.set_cons_zero,List.set_cons_succ]
   first | refine wpG_quiet1W (by first | rfl | go_simp) rfl rfl ?_ | refine wpG_pickW rfl (by first | rfl | go_simp) rfl ?_
   go_big_quiet_step (fail)
   refine wpQuiet_nil ?_
   first | refine wpG_quiet1W (by first | rfl | go_simp) rfl rfl ?_ | refine wpG_pickW rfl (by first | rfl | go_simp) rfl ?_
   go_big_quiet_step (fail)
   refine wpQuiet_nil ?_
   refine wpG_callW (by first | rfl | go_simp) rfl (fun w1 hb1 _ => ⟨29,#[.agg #[.string s.name,.int .i64 s.depth,.int .i64 s.low,.int .i64 s.high,.int .i64 s.len,.slice Al s.lines.length cl,.int .i64 s.pipe,.int .i64 s.arbor,.int .i64 s.purch,.int .i64 s.most,.int .i64 s.brake,.slice Ai s.items.length ci,.slice Ab s.bricks.length cb],.agg #[.string t.name,.int .i64 t.depth,.int .i64 t.low,.int .i64 t.high,.int .i64 t.len,.slice Bl t.lines.length dl,.int .i64 t.pipe,.int .i64 t.arbor,.int .i64 t.purch,.int .i64 t.most,.int .i64 t.brake,.slice Bi t.items.length di,.slice Bb t.bricks.length db]],by go_simp,(HRa.out w1 hb1).mono fun _ _ hp => ⟨_,hp.1,hp.2,rfl,trivial⟩⟩) ?_
   rintro _ rfl
   simp only [Act.put,List.setIfInBounds_toArray,List.set_cons_zero,List.set_cons_succ]
   first | refine wpG_quiet1W (by first | rfl | go_simp) rfl rfl ?_ | refine wpG_pickW rfl (by first | rfl | go_simp) rfl ?_
   go_big_quiet_step (fail)
   refine wpQuiet_nil ?_
   first | refine wpG_quiet1W (by first | rfl | go_simp) rfl rfl ?_ | refine wpG_pickW rfl (by first | rfl | go_simp) rfl ?_
   go_big_quiet_step (fail)
   refine wpQuiet_nil ?_
   first | refine wpG_quiet1W (by first | rfl | go_simp) rfl rfl ?_ | refine wpG_pickW rfl (by first | rfl | go_simp) rfl ?_
   go_big_quiet_step (fail)
   refine wpQuiet_nil ?_
   first | refine wpG_quiet1W (by first | rfl | go_simp) rfl rfl ?_ | refine wpG_pickW rfl (by first | rfl | go_simp) rfl ?_
   go_big_quiet_step (fail)
   refine wpQuiet_nil ?_
   refine wpG_callW (by first | rfl | go_simp) rfl (fun w1 hb1 _ => ⟨26,#[.agg #[.string s.name,.int .i64 s.depth,.int .i64 s.low,.int .i64 s.high,.int .i64 s.len,.slice Al s.lines.length cl,.int .i64 s.pipe,.int .i64 s.arbor,.int .i64 s.purch,.int .i64 s.most,.int .i64 s.brake,.slice Ai s.items.length ci,.slice Ab s.bricks.length cb]],by go_simp,(HCo.out w1 hb1).mono fun _ _ hp => gCp_post hp⟩) ?_
   rintro _ ⟨C1,k1,C2,k2,C3,k3,rfl⟩
   simp only [Act.put,List.setIfInBounds_toArray,List.set_cons_zero,List.set_cons_succ]
   unfold setVal
   refine wpG_callW (by first | rfl | go_simp) rfl ?_ ?_
   ·intro w1 hb1 hk
    have hu : SetAt w1 w1.heap.size (setVal s C1 k1 C2 k2 C3 k3) s := hk 45 (of_decide_eq_true (by kernel_rfl))
    exact ⟨49,#[.agg #[.string s.name,.int .i64 s.depth,.int .i64 s.low,.int .i64 s.high,.int .i64 s.len,.slice Al s.lines.length cl,.int .i64 s.pipe,.int .i64 s.arbor,.int .i64 s.purch,.int .i64 s.most,.int .i64 s.brake,.slice Ai s.items.length ci,.slice Ab s.bricks.length cb],.agg #[.string s.name,.int .i64 s.depth,.int .i64 s.low,.int .i64 s.high,.int .i64 s.len,.slice C1 s.lines.length k1,.int .i64 s.pipe,.int .i64 s.arbor,.int .i64 s.purch,.int .i64 s.most,.int .i64 s.brake,.slice C2 s.items.length k2,.slice C3 s.bricks.length k3]],by go_simp,(HSc.out _ w1 hb1 hu).mono fun _ _ hp => ⟨_,hp.1,hp.2,rfl,trivial⟩⟩
   rintro _ rfl
   simp only [Act.put,List.setIfInBounds_toArray,List.set_cons_zero,List.set_cons_succ]
   first | refine wpG_quiet1W (by first | rfl | go_simp) rfl rfl ?_ | refine wpG_pickW rfl (by first | rfl | go_simp) rfl ?_
   go_big_quiet_step (fail)
   refine wpQuiet_nil ?_
   refine wpG_nil ?_
   intro w7 hb7 _
   replace HG7 := Lib.hid (HG7.out.below hb7 HG7.out.lt)
   replace HG8 := Lib.hid (HG8.out.below hb7 HG8.out.lt)
   clear HSa HRa HCo HSc p0 p1 p2 p3 p4 p5 p6 p7 p8 p9 p10 p11 p12 q0 q1 q2 q3 q4 q5 q6 q7 q8 q9 q10 q11 q12 nb nb2
   replace HBa := Lib.hid (HBa.out.trans (hb7.mono HBa.out.size))
   replace HX := Lib.hid (HX.out.below hb7 HX.out.lt)
   replace HY := Lib.hid (HY.out.below hb7 HY.out.lt)
   clear hb7
   go_upto_region 10 with fail
   have ha := (Below.refl w7.heap.size w7).alloc (Nat.le_refl _) (.cells #[.int .i64 0,.int .i64 0] 91)
   have HG12 := Lib.hid (Blk.new w7 91 #[.int .i64 0,.int .i64 0])
   replace HG7 := Lib.hid (HG7.out.below ha HG7.out.lt)
   replace HG8 := Lib.hid (HG8.out.below ha HG8.out.lt)
   replace HBa := Lib.hid (HBa.out.trans (ha.mono HBa.out.size))
   replace HX := Lib.hid (HX.out.below ha HX.out.lt)
   replace HY := Lib.hid (HY.out.below ha HY.out.lt)
   clear ha
   generalize (w7.alloc (.cells #[.int .i64 0,.int .i64 0] 91)) = w8 at *
   generalize w7.heap.size = g12 at *
   have hVa := refValid21 _ s w8 (HXs.out _ HBa.out) HXn.out
   have p0 := HX.out.cell 0
   have p1 := HX.out.cell 1
   have p2 := HX.out.cell 2
   have p3 := HX.out.cell 3
   have p4 := HX.out.cell 4
   have p5 := HX.out.cell 5
   have p6 := HX.out.cell 6
   have p7 := HX.out.cell 7
   have p8 := HX.out.cell 8
   have p9 := HX.out.cell 9
   have p10 := HX.out.cell 10
   have p11 := HX.out.cell 11
   have p12 := HX.out.cell 12
   simp only [List.getElem?_toArray,List.getElem?_cons_succ,List.getElem?_cons_zero] at p0 p1 p2 p3 p4 p5 p6 p7 p8 p9 p10 p11 p12
   go_wp2_with fail
   refine hVa.mono ?_
   rintro e w9 ⟨rfl,hb9⟩
   replace HG7 := Lib.hid (HG7.out.below hb9 HG7.out.lt)
   replace HG8 := Lib.hid (HG8.out.below hb9 HG8.out.lt)
   replace HG12 := Lib.hid (HG12.out.below hb9 HG12.out.lt)
   clear hVa p0 p1 p2 p3 p4 p5 p6 p7 p8 p9 p10 p11 p12
   replace HBa := Lib.hid (HBa.out.trans (hb9.mono HBa.out.size))
   replace HX := Lib.hid (HX.out.below hb9 HX.out.lt)
   replace HY := Lib.hid (HY.out.below hb9 HY.out.lt)
   clear hb9
   rcases Bool.eq_false_or_eq_true (setB s) with hok | hok
   rotate_left
   ·obtain ⟨rfl,rfl,rfl,rfl,rfl⟩ := HCs.out.1 hok
    obtain ⟨rfl,rfl⟩ := HTs.out.1 hok
    rw [hok]
    have e0 := HG7.out.cell 0
    have e1 := HG7.out.cell 1
    simp only [List.getElem?_toArray,List.getElem?_cons_succ,List.getElem?_cons_zero] at e0 e1
    have f0 := HG8.out.cell 0
    have f1 := HG8.out.cell 1
    simp only [List.getElem?_toArray,List.getElem?_cons_succ,List.getElem?_cons_zero] at f0 f1
    have g0 := HG12.out.cell 0
    have g1 := HG12.out.cell 1
    simp only [List.getElem?_toArray,List.getElem?_cons_succ,List.getElem?_cons_zero] at g0 g1
    clear hok HCs HTs
    go_wp2_with fail
    go_ret
    exact ⟨rfl,HBa.out⟩
   obtain ⟨rfl,rfl⟩ := HTs.out.2 hok
   have HOk := Lib.hid hok
   have hRt := refText29 _ s w9 (HXs.out _ HBa.out) hok
   rw [hok]
   clear hok HTs
   obtain ⟨tx,htx⟩ : ∃ tx : ByteArray,⟨(setText s).toArray⟩ = tx := ⟨_,rfl⟩
   rw [htx] at hRt ⊢
   clear htx
   have p0 := HX.out.cell 0
   have p1 := HX.out.cell 1
   have p2 := HX.out.cell 2
   have p3 := HX.out.cell 3
   have p4 := HX.out.cell 4
   have p5 := HX.out.cell 5
   have p6 := HX.out.cell 6
   have p7 := HX.out.cell 7
   have p8 := HX.out.cell 8
   have p9 := HX.out.cell 9
   have p10 := HX.out.cell 10
   have p11 := HX.out.cell 11
   have p12 := HX.out.cell 12
   simp only [List.getElem?_toArray,List.getElem?_cons_succ,List.getElem?_cons_zero] at p0 p1 p2 p3 p4 p5 p6 p7 p8 p9 p10 p11 p12
   have n1 : (tx.toList != tx.toList) = false := bne_self_eq_false _
   go_wp2_with fail
   refine hRt.mono ?_
   rintro e w10 ⟨rfl,hb10⟩
   replace HG7 := Lib.hid (HG7.out.below hb10 HG7.out.lt)
   replace HG8 := Lib.hid (HG8.out.below hb10 HG8.out.lt)
   replace HG12 := Lib.hid (HG12.out.below hb10 HG12.out.lt)
   clear hRt p0 p1 p2 p3 p4 p5 p6 p7 p8 p9 p10 p11 p12
   replace HBa := Lib.hid (HBa.out.trans (hb10.mono HBa.out.size))
   replace HX := Lib.hid (HX.out.below hb10 HX.out.lt)
   replace HY := Lib.hid (HY.out.below hb10 HY.out.lt)
   clear hb10
   have p2 := HX.out.cell 2
   have p3 := HX.out.cell 3
   simp only [List.getElem?_toArray,List.getElem?_cons_succ,List.getElem?_cons_zero] at p2 p3
   have e0 := HG7.out.cell 0
   have e1 := HG7.out.cell 1
   simp only [List.getElem?_toArray,List.getElem?_cons_succ,List.getElem?_cons_zero] at e0 e1
   have f0 := HG8.out.cell 0
   have f1 := HG8.out.cell 1
   simp only [List.getElem?_toArray,List.getElem?_cons_succ,List.getElem?_cons_zero] at f0 f1
   have g0 := HG12.out.cell 0
   have g1 := HG12.out.cell 1
   simp only [List.getElem?_toArray,List.getElem?_cons_succ,List.getElem?_cons_zero] at g0 g1
   rcases Bool.eq_false_or_eq_true (trimB s trim) with htm | htm
   ·obtain ⟨rfl,rfl,rfl,rfl,rfl⟩ := HCs.out.2.1 HOk.out htm
    have hd : decide (trim < s.low) = true ∨ (decide (trim < s.low) = false ∧ decide (s.high < trim) = true) := by
     unfold trimB at htm
     cases h : decide (trim < s.low)
     ·rw [h,Bool.false_or] at htm
      exact .inr ⟨rfl,htm⟩
     ·exact .inl rfl
    clear htm HCs HOk
    rcases hd with d1 | ⟨d1,d2⟩
    ·go_wp2_with fail
     go_ret
     exact ⟨rfl,HBa.out⟩
    ·go_wp2_with fail
     go_ret
     exact ⟨rfl,HBa.out⟩
   ·obtain ⟨hs1,hs2,hs3⟩ := HCs.out.2.2 HOk.out htm
    subst hs3
    have hd : decide (trim < s.low) = false ∧ decide (s.high < trim) = false := by
     unfold trimB at htm
     simpa only [Bool.or_eq_false_iff] using htm
    have htr : 0 ≤ trim ∧ trim ≤ 1048576 := by
     have h1 := of_decide_eq_false hd.1
     have h2 := of_decide_eq_false hd.2
     have h3 := (setB_ok HOk.out).low
     omega
    have hRe := refExtent29 _ s trim w10 (HXs.out _ HBa.out) HOk.out htr
    rw [hs1,hs2] at hRe
    obtain ⟨d1,d2⟩ := hd
    clear htm HCs HOk htr hs1 hs2 e0 e1 f0 f1 g0 g1 p2 p3
    have p0 := HX.out.cell 0
    have p1 := HX.out.cell 1
    have p2 := HX.out.cell 2
    have p3 := HX.out.cell 3
    have p4 := HX.out.cell 4
    have p5 := HX.out.cell 5
    have p6 := HX.out.cell 6
    have p7 := HX.out.cell 7
    have p8 := HX.out.cell 8
    have p9 := HX.out.cell 9
    have p10 := HX.out.cell 10
    have p11 := HX.out.cell 11
    have p12 := HX.out.cell 12
    simp only [List.getElem?_toArray,List.getElem?_cons_succ,List.getElem?_cons_zero] at p0 p1 p2 p3 p4 p5 p6 p7 p8 p9 p10 p11 p12
    go_wp2_with fail
    refine hRe.mono ?_
    rintro e w11 ⟨rfl,hb11⟩
    have hb12 := (hb11.alloc hb11.size (.cells #[.int .i64 a0,.int .i64 a1] 91)).alloc (Nat.le_trans hb11.size (by simp)) (.cells #[.int .i64 b0,.int .i64 b1] 91)
    have HG13 := Lib.hid ((Blk.new w11 91 #[.int .i64 a0,.int .i64 a1]).alloc (.cells #[.int .i64 b0,.int .i64 b1] 91))
    have hg14 := Blk.new (w11.alloc (.cells #[.int .i64 a0,.int .i64 a1] 91)) 91 #[.int .i64 b0,.int .i64 b1]
    rw [World.size_alloc] at hg14
    have HG14 := Lib.hid hg14
    replace HG7 := Lib.hid (HG7.out.below hb12 HG7.out.lt)
    replace HG8 := Lib.hid (HG8.out.below hb12 HG8.out.lt)
    replace HBa := Lib.hid (HBa.out.trans (hb12.mono HBa.out.size))
    clear hRe hb11 hb12 hg14 HX HY p0 p1 p2 p3 p4 p5 p6 p7 p8 p9 p10 p11 p12
    go_upto_region 17 with fail
    generalize ((w11.alloc (.cells #[.int .i64 a0,.int .i64 a1] 91)).alloc (.cells #[.int .i64 b0,.int .i64 b1] 91)) = w12 at *
    generalize w11.heap.size = g13 at *
    have e0 := HG7.out.cell 0
    have e1 := HG7.out.cell 1
    simp only [List.getElem?_toArray,List.getElem?_cons_succ,List.getElem?_cons_zero] at e0 e1
    have f0 := HG8.out.cell 0
    have f1 := HG8.out.cell 1
    simp only [List.getElem?_toArray,List.getElem?_cons_succ,List.getElem?_cons_zero] at f0 f1
    have g0 := HG13.out.cell 0
    have g1 := HG13.out.cell 1
    simp only [List.getElem?_toArray,List.getElem?_cons_succ,List.getElem?_cons_zero] at g0 g1
    have h0 := HG14.out.cell 0
    have h1 := HG14.out.cell 1
    simp only [List.getElem?_toArray,List.getElem?_cons_succ,List.getElem?_cons_zero] at h0 h1
    have c0 : (a0 == a0) = true := beq_self_eq_true _
    have c1 : (a1 == a1) = true := beq_self_eq_true _
    have c2 : (b0 == b0) = true := beq_self_eq_true _
    have c3 : (b1 == b1) = true := beq_self_eq_true _
    go_wp2_with fail
    go_ret
    exact ⟨rfl,HBa.out⟩
end Go.Proofs.YtbhmkcjddpniiaaGreatDoor
