/- Parts of the proof, laid into one text: RefCopy21, ApartP, GrowW, LawApart. -/
import Derived.BigQuiet
import Derived.Deep.AppendLies
import Derived.Deep.Cut
import Derived.Deep.Draws
import Derived.Deep.LoopGhost
import Derived.Deep.MidRow
import Derived.Deep.QuietTactic
import Derived.Deep.RegionHeld3
import Derived.Deep.RegionLaw
import Derived.IntWalk
import Derived.Laws.Bits64b
import Derived.Laws.Concat
import Derived.Laws.EntriesVeiled
import Derived.Lib.AppendIntMem
import Derived.Lib.Hide
import Derived.Lib.ItoaLen
import Derived.Lib.ItoaMem
import Derived.Lib.Join
import Derived.Lib.SliceRun
import Derived.Lib.SmallJoins
import Derived.LoopIn
import Derived.LoopNIn
import Derived.Maps.AppendAt
import Derived.Maps.Own
import Derived.Maps.OwnOps
import Derived.Maps.OwnSet
import Derived.Maps.Views
import Derived.Outline
import Derived.OwnWalkIn
import Derived.PlainAid
import Derived.RangeFuncBox
import Derived.RangeFuncLeaves
import Derived.Shelf.Abstract
import Derived.Shelf.Bits.Mul64
import Derived.Shelf.Strconv.Itoa3
import Derived.Shelf.Strings.Count
import Derived.Shelf.Strings.OnBuilder
import Derived.Shelf.Strings.Prefix
import Derived.StillTail
import Derived.StillTailTactics
import Derived.TacticsInMore
import Derived.Test.YtbhmkcjddpniiaaGreatDoorC1
import Derived.Test.YtbhmkcjddpniiaaGreatDoorC2
import Derived.Test.YtbhmkcjddpniiaaGreatDoorC3
import Derived.Test.YtbhmkcjddpniiaaGreatDoorC4
import Derived.Test.YtbhmkcjddpniiaaGreatDoorC5
import Derived.Test.YtbhmkcjddpniiaaGreatDoorC6
import Derived.Test.YtbhmkcjddpniiaaGreatDoorC7
import Derived.Test.YtbhmkcjddpniiaaGreatDoorD1
import Derived.Test.YtbhmkcjddpniiaaGreatDoorD2
import Derived.Test.YtbhmkcjddpniiaaGreatDoorD3
import Derived.Test.YtbhmkcjddpniiaaGreatDoorD4
import Derived.Test.YtbhmkcjddpniiaaGreatDoorD5
import Derived.Test.YtbhmkcjddpniiaaGreatDoorD6
import Derived.Test.YtbhmkcjddpniiaaGreatDoorD9
import Derived.Test.YtbhmkcjddpniiaaGreatDoorG1
import Derived.Test.YtbhmkcjddpniiaaGreatDoorI1
import Derived.Test.YtbhmkcjddpniiaaGreatDoorI10
import Derived.Test.YtbhmkcjddpniiaaGreatDoorI11
import Derived.Test.YtbhmkcjddpniiaaGreatDoorI12
import Derived.Test.YtbhmkcjddpniiaaGreatDoorI2
import Derived.Test.YtbhmkcjddpniiaaGreatDoorI3
import Derived.Test.YtbhmkcjddpniiaaGreatDoorI6
import Derived.Test.YtbhmkcjddpniiaaGreatDoorI7
import Derived.Test.YtbhmkcjddpniiaaGreatDoorI8
import Derived.Test.YtbhmkcjddpniiaaGreatDoorI9
import Derived.Test.YtbhmkcjddpniiaaGreatDoorProg
import Derived.WalkKit
import Derived.WalkLawsBesides
import Derived.WalkSpells

namespace Go.Proofs.YtbhmkcjddpniiaaGreatDoor
open Go.RowKit Go.Shelf
theorem set_keeps {w : World} {g i : Nat} {cs : Array Value} {u : Value} {B t s n : Nat} {v : Value} {xs : List Value} (hd : Blk w g 26 cs) (h : w.ownsRow B t s v n xs) (ht : 26 ≠ t) : (w.setCell ⟨g,i,none⟩ u).ownsRow B t s v n xs :=
 h.kept (setG_grownB w g i u) (own_not h hd ht)
theorem fresh_grown {W w1 : World} {e : TypeId} (hg : (W.alloc (.cells #[] e)).grownBy w1 (Value.slice (some ⟨W.heap.size,0,none⟩) 0 0).ownBlock) : Below W.heap.size W w1 :=
 ((Below.refl W.heap.size W).alloc (Nat.le_refl _) _).grown hg (by simp) (fun k hk => by simp [Value.ownBlock] at hk;omega)
set_option maxRecDepth 100000 in
set_option maxHeartbeats 4000000 in
theorem refCopy21 (v : Value) (s : SetT) (w : World) (hv : SetAt w w.heap.size v s) (h1 : s.lines.length ≤ 1000) (h2 : s.items.length ≤ 1000) (h3 : s.bricks.length ≤ 1000) : Calls Tryz.prog 26 #[v] w (CopyPost s w) := by
  obtain ⟨Al, cl, Ai, ci, Ab, cb, rfl, hL, hI, hB⟩ := hv
  have HL := Lib.hid hL
  have HI := Lib.hid hI
  have HK := Lib.hid hB
  clear hL hI hB
  unfold setVal at *
  have hd0 := (Blk.new w 26 #[.string s.name, .int .i64 s.depth, .int .i64 s.low, .int .i64 s.high, .int .i64 s.len, .slice Al s.lines.length cl, .int .i64 s.pipe, .int .i64 s.arbor, .int .i64 s.purch, .int .i64 s.most, .int .i64 s.brake, .slice Ai s.items.length ci, .slice Ab s.bricks.length cb]).alloc (.cells #[.string ⟨#[]⟩, .int .i64 0, .int .i64 0, .int .i64 0, .int .i64 0, .slice none 0 0, .int .i64 0, .int .i64 0, .int .i64 0, .int .i64 0, .int .i64 0, .slice none 0 0, .slice none 0 0] 26)
  have hd1 := Blk.new (w.alloc (.cells #[.string s.name, .int .i64 s.depth, .int .i64 s.low, .int .i64 s.high, .int .i64 s.len, .slice Al s.lines.length cl, .int .i64 s.pipe, .int .i64 s.arbor, .int .i64 s.purch, .int .i64 s.most, .int .i64 s.brake, .slice Ai s.items.length ci, .slice Ab s.bricks.length cb] 26)) 26 #[.string ⟨#[]⟩, .int .i64 0, .int .i64 0, .int .i64 0, .int .i64 0, .slice none 0 0, .int .i64 0, .int .i64 0, .int .i64 0, .int .i64 0, .int .i64 0, .slice none 0 0, .slice none 0 0]
  rw [World.size_alloc] at hd1
  have hB2 := ((Below.refl _ w).alloc (Nat.le_refl _) (.cells #[.string s.name, .int .i64 s.depth, .int .i64 s.low, .int .i64 s.high, .int .i64 s.len, .slice Al s.lines.length cl, .int .i64 s.pipe, .int .i64 s.arbor, .int .i64 s.purch, .int .i64 s.most, .int .i64 s.brake, .slice Ai s.items.length ci, .slice Ab s.bricks.length cb] 26)).alloc (by simp) (.cells #[.string ⟨#[]⟩, .int .i64 0, .int .i64 0, .int .i64 0, .int .i64 0, .slice none 0 0, .int .i64 0, .int .i64 0, .int .i64 0, .int .i64 0, .int .i64 0, .slice none 0 0, .slice none 0 0] 26)
  go_enter Tryz.func26, Tryz.ntmps26
  go_upto_region 1 with fail
  generalize (w.alloc (.cells #[.string s.name, .int .i64 s.depth, .int .i64 s.low, .int .i64 s.high, .int .i64 s.len, .slice Al s.lines.length cl, .int .i64 s.pipe, .int .i64 s.arbor, .int .i64 s.purch, .int .i64 s.most, .int .i64 s.brake, .slice Ai s.items.length ci, .slice Ab s.bricks.length cb] 26)).alloc (.cells #[.string ⟨#[]⟩, .int .i64 0, .int .i64 0, .int .i64 0, .int .i64 0, .slice none 0 0, .int .i64 0, .int .i64 0, .int .i64 0, .int .i64 0, .int .i64 0, .slice none 0 0, .slice none 0 0] 26) = W2 at *
  have HD0 := Lib.hid hd0
  have HD1 := Lib.hid hd1
  have HB2 := Lib.hid hB2
  clear hd0 hd1 hB2
  have y := (HD0.out.alloc (.cells #[] 3)).cell 5
  simp only [List.getElem?_toArray, List.getElem?_cons_succ, List.getElem?_cons_zero] at y
  have hba := (Below.refl W2.heap.size W2).alloc (Nat.le_refl _) (.cells #[] 3)
  have HSr := Lib.hid (RowAt.below HL.out (HB2.out.trans (hba.mono HB2.out.size)) (Nat.le_refl _))
  have hsz := HB2.out.size
  clear hba
  go_upto_region 2 with (at_builtin; refine wpList_appendAll _ rfl (.tmp 3) (.tmp 5) 22 rfl w.heap.size 3 info_int Tryz.underlying22 rfl (by decide) (.slice (some ⟨W2.heap.size, 0, none⟩) 0 0) 0 [] rfl (World.ownsRow_made W2 #[] 0 hsz (Nat.zero_le _) rfl) w.heap.size s.lines.length (.slice Al s.lines.length cl) (s.lines.map (Value.int .i64)) rfl HSr.out (by simp) (by simp [Value.oneCell']) (by unfold maxLen; omega) (by omega) (by simp; omega) ?_; intro v1 w1 hown1 hg1 hat1; rw [Nat.zero_add, List.nil_append] at hown1; obtain ⟨A1, k1, rfl⟩ := own_formB hown1; have hb1 := fresh_grown hg1; have HO1 := Lib.hid hown1; have HDa := Lib.hid (HD0.out.below hb1 HD0.out.lt); have HDb := Lib.hid (HD1.out.below hb1 HD1.out.lt); have HBb := Lib.hid (HB2.out.trans (hb1.mono HB2.out.size)); have y := HDa.out.cell 5; have fy := HDa.out.frozen 5; simp only [List.getElem?_toArray, List.getElem?_cons_succ, List.getElem?_cons_zero] at y; clear hown1 hg1 hat1 hb1)
  have HD0 : Hid (Blk (w1.setCell ⟨w.heap.size, 5, none⟩ (.slice A1 s.lines.length k1)) w.heap.size 26 #[.string s.name, .int .i64 s.depth, .int .i64 s.low, .int .i64 s.high, .int .i64 s.len, .slice A1 s.lines.length k1, .int .i64 s.pipe, .int .i64 s.arbor, .int .i64 s.purch, .int .i64 s.most, .int .i64 s.brake, .slice Ai s.items.length ci, .slice Ab s.bricks.length cb]) := HDa.out.set_ 5 (.slice A1 s.lines.length k1)
  have HD1 := Lib.hid (HDb.out.far (p := ⟨w.heap.size, 5, none⟩) (by show w.heap.size + 1 ≠ w.heap.size; omega) (.slice A1 s.lines.length k1))
  have HB2 := Lib.hid (HBb.out.grown (setG_grownB w1 w.heap.size 5 (.slice A1 s.lines.length k1)) HBb.out.size (fun k e => Nat.le_of_eq (Option.some.inj e)))
  have HO1 := Lib.hid (set_keeps (i := 5) (u := .slice A1 s.lines.length k1) HDa.out HO1.out (by decide))
  clear y fy HSr HDa HDb HBb hsz 
  generalize (w1.setCell ⟨w.heap.size, 5, none⟩ (.slice A1 s.lines.length k1)) = W3 at *
  have y := (HD0.out.alloc (.cells #[] 47)).cell 11
  simp only [List.getElem?_toArray, List.getElem?_cons_succ, List.getElem?_cons_zero] at y
  have hba := (Below.refl W3.heap.size W3).alloc (Nat.le_refl _) (.cells #[] 47)
  have HSr := Lib.hid (ItemsAt.below HI.out (HB2.out.trans (hba.mono HB2.out.size)) (Nat.le_refl _))
  have hsz := HB2.out.size
  clear hba
  go_upto_region 3 with (at_builtin; refine wpList_appendAll _ rfl (.tmp 8) (.tmp 10) 23 rfl w.heap.size 47 info_item Tryz.underlying23 rfl (by decide) (.slice (some ⟨W3.heap.size, 0, none⟩) 0 0) 0 [] rfl (World.ownsRow_made W3 #[] 0 hsz (Nat.zero_le _) rfl) w.heap.size s.items.length (.slice Ai s.items.length ci) (s.items.flatMap ItemT.cells) rfl HSr.out (flatLen ItemT.cells 7 (fun _ => rfl) s.items) (flatOneItem s.items) (by unfold maxLen; omega) (by omega) (by simp; omega) ?_; intro v1 w2 hown1 hg1 hat1; rw [Nat.zero_add, List.nil_append] at hown1; obtain ⟨A2, k2, rfl⟩ := own_formB hown1; have hb1 := fresh_grown hg1; have HO2 := Lib.hid hown1; have HDa := Lib.hid (HD0.out.below hb1 HD0.out.lt); have HDb := Lib.hid (HD1.out.below hb1 HD1.out.lt); have HBb := Lib.hid (HB2.out.trans (hb1.mono HB2.out.size)); have HP1 := Lib.hid (own_belowL HO1.out hb1); have y := HDa.out.cell 11; have fy := HDa.out.frozen 11; simp only [List.getElem?_toArray, List.getElem?_cons_succ, List.getElem?_cons_zero] at y; clear hown1 hg1 hat1 hb1)
  have HD0 : Hid (Blk (w2.setCell ⟨w.heap.size, 11, none⟩ (.slice A2 s.items.length k2)) w.heap.size 26 #[.string s.name, .int .i64 s.depth, .int .i64 s.low, .int .i64 s.high, .int .i64 s.len, .slice A1 s.lines.length k1, .int .i64 s.pipe, .int .i64 s.arbor, .int .i64 s.purch, .int .i64 s.most, .int .i64 s.brake, .slice A2 s.items.length k2, .slice Ab s.bricks.length cb]) := HDa.out.set_ 11 (.slice A2 s.items.length k2)
  have HD1 := Lib.hid (HDb.out.far (p := ⟨w.heap.size, 11, none⟩) (by show w.heap.size + 1 ≠ w.heap.size; omega) (.slice A2 s.items.length k2))
  have HB2 := Lib.hid (HBb.out.grown (setG_grownB w2 w.heap.size 11 (.slice A2 s.items.length k2)) HBb.out.size (fun k e => Nat.le_of_eq (Option.some.inj e)))
  have HO2 := Lib.hid (set_keeps (i := 11) (u := .slice A2 s.items.length k2) HDa.out HO2.out (by decide))
  have HO1 := Lib.hid (set_keeps (i := 11) (u := .slice A2 s.items.length k2) HDa.out HP1.out (by decide))
  clear y fy HSr HDa HDb HBb hsz HP1
  generalize (w2.setCell ⟨w.heap.size, 11, none⟩ (.slice A2 s.items.length k2)) = W4 at *
  have y := (HD0.out.alloc (.cells #[] 49)).cell 12
  simp only [List.getElem?_toArray, List.getElem?_cons_succ, List.getElem?_cons_zero] at y
  have hba := (Below.refl W4.heap.size W4).alloc (Nat.le_refl _) (.cells #[] 49)
  have HSr := Lib.hid (BricksAt.below HK.out (HB2.out.trans (hba.mono HB2.out.size)) (Nat.le_refl _))
  have hsz := HB2.out.size
  clear hba
  go_upto_region 4 with (at_builtin; refine wpList_appendAll _ rfl (.tmp 13) (.tmp 15) 24 rfl w.heap.size 49 info_brick Tryz.underlying24 rfl (by decide) (.slice (some ⟨W4.heap.size, 0, none⟩) 0 0) 0 [] rfl (World.ownsRow_made W4 #[] 0 hsz (Nat.zero_le _) rfl) w.heap.size s.bricks.length (.slice Ab s.bricks.length cb) (s.bricks.flatMap BrickT.cells) rfl HSr.out (flatLen BrickT.cells 3 (fun _ => rfl) s.bricks) (flatOneBrick s.bricks) (by unfold maxLen; omega) (by omega) (by simp; omega) ?_; intro v1 w3 hown1 hg1 hat1; rw [Nat.zero_add, List.nil_append] at hown1; obtain ⟨A3, k3, rfl⟩ := own_formB hown1; have hb1 := fresh_grown hg1; have HO3 := Lib.hid hown1; have HDa := Lib.hid (HD0.out.below hb1 HD0.out.lt); have HDb := Lib.hid (HD1.out.below hb1 HD1.out.lt); have HBb := Lib.hid (HB2.out.trans (hb1.mono HB2.out.size)); have HP1 := Lib.hid (own_belowL HO1.out hb1); have HP2 := Lib.hid (own_belowL HO2.out hb1); have y := HDa.out.cell 12; have fy := HDa.out.frozen 12; simp only [List.getElem?_toArray, List.getElem?_cons_succ, List.getElem?_cons_zero] at y; clear hown1 hg1 hat1 hb1)
  have HD0 : Hid (Blk (w3.setCell ⟨w.heap.size, 12, none⟩ (.slice A3 s.bricks.length k3)) w.heap.size 26 #[.string s.name, .int .i64 s.depth, .int .i64 s.low, .int .i64 s.high, .int .i64 s.len, .slice A1 s.lines.length k1, .int .i64 s.pipe, .int .i64 s.arbor, .int .i64 s.purch, .int .i64 s.most, .int .i64 s.brake, .slice A2 s.items.length k2, .slice A3 s.bricks.length k3]) := HDa.out.set_ 12 (.slice A3 s.bricks.length k3)
  have HD1 := Lib.hid (HDb.out.far (p := ⟨w.heap.size, 12, none⟩) (by show w.heap.size + 1 ≠ w.heap.size; omega) (.slice A3 s.bricks.length k3))
  have HB2 := Lib.hid (HBb.out.grown (setG_grownB w3 w.heap.size 12 (.slice A3 s.bricks.length k3)) HBb.out.size (fun k e => Nat.le_of_eq (Option.some.inj e)))
  have HO3 := Lib.hid (set_keeps (i := 12) (u := .slice A3 s.bricks.length k3) HDa.out HO3.out (by decide))
  have HO1 := Lib.hid (set_keeps (i := 12) (u := .slice A3 s.bricks.length k3) HDa.out HP1.out (by decide))
  have HO2 := Lib.hid (set_keeps (i := 12) (u := .slice A3 s.bricks.length k3) HDa.out HP2.out (by decide))
  clear y fy HSr HDa HDb HBb hsz HP1 HP2
  generalize (w3.setCell ⟨w.heap.size, 12, none⟩ (.slice A3 s.bricks.length k3)) = W5 at *
  have ER := Lib.hid (blk_range HD0.out)
  have HTh := Lib.hid (blk_there HD1.out rfl)
  have HR := Lib.hid (World.rangeAt_setCells_same W5 (w.heap.size + 1) 0 [.string s.name, .int .i64 s.depth, .int .i64 s.low, .int .i64 s.high, .int .i64 s.len, .slice A1 s.lines.length k1, .int .i64 s.pipe, .int .i64 s.arbor, .int .i64 s.purch, .int .i64 s.most, .int .i64 s.brake, .slice A2 s.items.length k2, .slice A3 s.bricks.length k3] (blk_there HD1.out rfl))
  refine wp_region_lit ?_
  refine wpList_load_mid rfl 26 (.tmp 1) rfl w.heap.size 0 rfl [.string s.name, .int .i64 s.depth, .int .i64 s.low, .int .i64 s.high, .int .i64 s.len, .slice A1 s.lines.length k1, .int .i64 s.pipe, .int .i64 s.arbor, .int .i64 s.purch, .int .i64 s.most, .int .i64 s.brake, .slice A2 s.items.length k2, .slice A3 s.bricks.length k3] _ ER.out Tryz.underlying26 rfl (by kernel_rfl) ?_
  refine wpList_store_mid rfl 26 (.tmp 2) (.tmp 18) rfl (w.heap.size + 1) 0 #[.string s.name, .int .i64 s.depth, .int .i64 s.low, .int .i64 s.high, .int .i64 s.len, .slice A1 s.lines.length k1, .int .i64 s.pipe, .int .i64 s.arbor, .int .i64 s.purch, .int .i64 s.most, .int .i64 s.brake, .slice A2 s.items.length k2, .slice A3 s.bricks.length k3] rfl rfl HTh.out (by kernel_rfl) (by simp [Value.oneCell']) ?_
  refine wpList_nil ?_
  simp only [Act.put, List.setIfInBounds_toArray, List.set_cons_zero, List.set_cons_succ]
  clear ER HTh
  have hG9 := grown_setCells (w.heap.size + 1) [.string s.name, .int .i64 s.depth, .int .i64 s.low, .int .i64 s.high, .int .i64 s.len, .slice A1 s.lines.length k1, .int .i64 s.pipe, .int .i64 s.arbor, .int .i64 s.purch, .int .i64 s.most, .int .i64 s.brake, .slice A2 s.items.length k2, .slice A3 s.bricks.length k3] 0 W5
  have hB9 := HB2.out.grown hG9 HB2.out.size (fun k e => by obtain rfl : w.heap.size + 1 = k := by simpa using e
                                                            omega)
  have r1 := HO1.out.kept hG9 (own_not HO1.out HD1.out (by decide))
  have r2 := HO2.out.kept hG9 (own_not HO2.out HD1.out (by decide))
  have r3 := HO3.out.kept hG9 (own_not HO3.out HD1.out (by decide))
  have p0 := HR.out 0 _ rfl
  have p1 := HR.out 1 _ rfl
  have p2 := HR.out 2 _ rfl
  have p3 := HR.out 3 _ rfl
  have p4 := HR.out 4 _ rfl
  have p5 := HR.out 5 _ rfl
  have p6 := HR.out 6 _ rfl
  have p7 := HR.out 7 _ rfl
  have p8 := HR.out 8 _ rfl
  have p9 := HR.out 9 _ rfl
  have p10 := HR.out 10 _ rfl
  have p11 := HR.out 11 _ rfl
  have p12 := HR.out 12 _ rfl
  simp only [Nat.zero_add] at p0 p1 p2 p3 p4 p5 p6 p7 p8 p9 p10 p11 p12
  generalize World.setCells W5 (w.heap.size + 1) 0 [.string s.name, .int .i64 s.depth, .int .i64 s.low, .int .i64 s.high, .int .i64 s.len, .slice A1 s.lines.length k1, .int .i64 s.pipe, .int .i64 s.arbor, .int .i64 s.purch, .int .i64 s.most, .int .i64 s.brake, .slice A2 s.items.length k2, .slice A3 s.bricks.length k3] = W9 at *
  clear hG9 HR HO1 HO2 HO3 HD0 HD1 HB2
  go_wp2_with fail
  refine bodyPost_ret (v := .agg #[.string s.name, .int .i64 s.depth, .int .i64 s.low, .int .i64 s.high, .int .i64 s.len, .slice A1 s.lines.length k1, .int .i64 s.pipe, .int .i64 s.arbor, .int .i64 s.purch, .int .i64 s.most, .int .i64 s.brake, .slice A2 s.items.length k2, .slice A3 s.bricks.length k3]) (by simp [results, Tryz.results26, go_sem, p0, p1, p2, p3, p4, p5, p6, p7, p8, p9, p10, p11, p12]) rfl ?_
  exact ⟨hB9, A1, k1, A2, k2, A3, k3, rfl, r1, r2, r3⟩
end Go.Proofs.YtbhmkcjddpniiaaGreatDoor

namespace Go.Proofs.YtbhmkcjddpniiaaGreatDoor
open Go.RowKit Go.Shelf
structure Ap49 (w wq : World) (D : Nat) (M : Nat → Prop) (st : St) (r : StR) (X : Array Value) : Prop where
 bel : Below w.heap.size w wq
 store : StoreAt wq w.heap.size D M st r
 box : Blk wq w.heap.size 26 X
section
variable {w wq w' : World} {D b k n : Nat} {M M' : Nat → Prop} {st st' : St} {r r' : StR} {X : Array Value} {e : TypeId} {v : Value} {xs : List Value}
theorem Ap49.below (h : Ap49 w wq D M st r X) (hb : Below wq.heap.size wq w') : Ap49 w w' D M st r X := ⟨h.bel.trans (hb.mono h.bel.size),h.store.below hb,h.box.below hb h.box.lt⟩
theorem Ap49.chg (h : Ap49 w wq D M st r X) (hc : ChgS w.heap.size wq w') (hS : StoreAt w' w.heap.size D M' st' r') : Ap49 w w' D M' st' r' X := ⟨h.bel.trans hc.bel,hS,h.box.chg hc (by decide) (by decide)⟩
theorem Ap49.row (h : Ap49 w wq D M st r X) (ho : wq.ownsRow b e k v n xs) (hb : w.heap.size ≤ b) (h0 : 26 ≠ e) (h1 : e ≠ 76) (h2 : e ≠ 66) (hM : ∀ g,v.ownBlock = some g → ¬ M g) (hg : wq.grownBy w' v.ownBlock) : Ap49 w w' D M st r X :=
 ⟨h.bel.grown hg h.bel.size fun g eg => Nat.le_trans hb (ho.lt g eg).1,store_rowE h.store ho h1 h2 hM hg,blk_row ho hg h.box h0⟩
def IntCol (xs : List Value) (k off n j : Nat) : Prop := ∀ i,j ≤ i → i < n → ∃ z,xs[i * k + off]? = some (.int .i64 z)
theorem IntCol.set {off j : Nat} {u : Value} (hk : 0 < k) (h : IntCol xs k off n j) : IntCol (xs.set (j * k + off) u) k off n (j + 1) := fun i hi hn => by
 obtain ⟨z,hz⟩ := h i (by omega) hn
 refine ⟨z,?_⟩
 rw [List.getElem?_set_ne,hz]
 have : (j + 1) * k ≤ i * k := Nat.mul_le_mul_right _ hi
 rw [Nat.succ_mul] at this
 omega
theorem intCol_flat {α : Type} (f : α → List Value) (hf : ∀ x,(f x).length = k) {off : Nat} (ho : off < k) (l : List α) (hz : ∀ x : α,∃ z,(f x)[off]? = some (.int .i64 z)) : IntCol (l.flatMap f) k off l.length 0 := fun i _ hn => by
 obtain ⟨z,h⟩ := hz l[i]
 exact ⟨z,(flatGet f k hf l i off hn ho).trans h⟩
theorem IntCol.cell {off j : Nat} {A : Option Addr} {c : Nat} (h : IntCol xs k off n j) (ho : wq.ownsRow b e k (.slice A n c) n xs) (hn : j < n) : ∃ g z,A = some ⟨g,0,none⟩ ∧ n ≤ c ∧ g < wq.heap.size ∧ b ≤ g ∧ wq.cell? ⟨g,j * k + off,none⟩ = some (.int .i64 z) ∧ wq.frozen? ⟨g,j * k + off,none⟩ = false := by
 obtain ⟨z,hz⟩ := h j (Nat.le_refl _) hn
 rcases ho.2 with ⟨_,e0⟩ | ⟨g,cap,cur,e0,hb,hg,hnc,_⟩
 ·omega
 ·injection e0 with e1 _ e2
  subst e1 e2
  have := ho.cells (g := g) (by simp [Value.ownBlock]) _ _ hz
  rw [Addr.add_lit,Nat.zero_add] at this
  exact ⟨g,z,rfl,hnc,(Array.getElem?_eq_some_iff.1 hg).1,hb,this,by simp [World.frozen?,hg]⟩
def st1of (x : SetT) : St := ⟨[x],[[]],[],0⟩
def st2of (x : SetT) : St := ⟨[x],[[]],[x],1⟩
theorem st1_put {x : SetT} (h : setB x = true) : putV st0 x = (0,st1of x) := by unfold putV;rw [if_pos h];rfl
theorem st1_get (x : SetT) : getS (st1of x) x.name = (x,0) := by
 unfold getS st1of idxS
 simp
theorem st2_get (x : SetT) : getS (st2of x) x.name = (x,0) := by
 unfold getS st2of idxS
 simp
theorem st1_ln (x : SetT) : lnS (st1of x) x.name = (linesOf x,linesErr x) := by
 unfold lnS st1of idxS
 simp
theorem st2_ln (x : SetT) : lnS (st2of x) x.name = (linesOf x,linesErr x) := by
 unfold lnS st2of idxS
 simp
theorem st1_lines (x : SetT) : linesSt (st1of x) x.name = st2of x := by
 unfold linesSt st1of idxS st2of
 simp
theorem st2_lines (x : SetT) : linesSt (st2of x) x.name = st2of x := by
 unfold linesSt idxS st2of
 simp
theorem st1_ok {x : SetT} (h : setB x = true) : StOk (st1of x) := by
 have h1 := StOk.putV (st := st0) stOk_new x
 rwa [st1_put h] at h1
theorem st2_ok {x : SetT} (h : setB x = true) : StOk (st2of x) := by
 have h1 := (st1_ok h).lines x.name
 rwa [st1_lines] at h1
end
end Go.Proofs.YtbhmkcjddpniiaaGreatDoor

namespace Go.Proofs.YtbhmkcjddpniiaaGreatDoor
open Go.RowKit Go.Shelf
section
variable {P : Program} {ops : Array Oper} {W : World} {Φ : Nat → Option GPost}
theorem wpG_quiet1W {K : Act → FactsT → Prop} {k : Nat} {o : Oper} {r : List Oper} {a : Act} {F : FactsT} (hw : Region.wanted o (yielded ops a.tmps) = true) (hs : stillB o = true) (hΦ : Φ k = none)
  (h : wpQuiet P ops (fun w' => ∃ x : HeldB W,w' = x.w) (fun a' => wpG P ops W Φ K (k + 1) r a' (putF F o.dst (known ops o F))) [o] a) : wpG P ops W Φ K k (o :: r) a F := by
 simp only [wpQuiet] at h
 rw [if_pos hw] at h
 obtain ⟨v,hq,h⟩ := h
 show gStep P ops W o (Φ k) _ a F
 unfold gStep
 rw [if_pos hw,hΦ]
 exact ⟨v,quietG_of (fun w hw => ⟨⟨w,hw⟩,rfl⟩) hs hq,h⟩
theorem no_enter_pick {o : Oper} {c x y : Operand} (ho : o.op = .pick c x y) {ρ : Operand → Value} {w w' : World} {f : FuncId} {args : Array Value} : (execOp ρ o).run P w ≠ .ok (.enter f args) w' := by
 intro h
 unfold execOp at h
 rw [ho] at h
 dsimp only at h
 rw [Sem.run_bind] at h
 cases hs : (asBool (ρ c)).run P w with
 | ok b w2 =>
  rw [hs] at h
  simp only [Result.andThen,Sem.run_pure] at h
  injection h with h1 _
  cases h1
 | halt x w2 =>
  rw [hs] at h
  simp only [Result.andThen] at h
  cases h
theorem wpG_pickW {K : Act → FactsT → Prop} {k : Nat} {o : Oper} {c x y : Operand} {r : List Oper} {a : Act} {F : FactsT} (ho : o.op = .pick c x y) (hw : Region.wanted o (yielded ops a.tmps) = true) (hΦ : Φ k = none)
  (h : wpQuiet P ops (fun w' => ∃ x : HeldB W,w' = x.w) (fun a' => wpG P ops W Φ K (k + 1) r a' (putF F o.dst (known ops o F))) [o] a) : wpG P ops W Φ K k (o :: r) a F := by
 simp only [wpQuiet] at h
 rw [if_pos hw] at h
 obtain ⟨v,hq,h⟩ := h
 show gStep P ops W o (Φ k) _ a F
 unfold gStep
 rw [if_pos hw,hΦ]
 refine ⟨v,fun w hb => ?_,h⟩
 have h1 := hq w ⟨⟨w,hb⟩,rfl⟩
 have h2 := fun f args w' => no_enter_pick (P := P) ho (ρ := a.eval) (w := w) (w' := w') (f := f) (args := args)
 unfold Oper.quietAt at h1
 generalize (execOp a.eval o).run P w = q at *
 cases q with
 | ok n w' =>
  cases n <;> simp only [Oper.quietUpon] at h1
  case value u => exact h1
  case skip => exact h1
  case enter f args => exact absurd rfl (h2 f args w')
 | halt x w' => simp only [Oper.quietUpon] at h1
theorem wpG_callW {K : Act → FactsT → Prop} {k : Nat} {o : Oper} {r : List Oper} {a : Act} {F : FactsT} {φ : GPost} (hw : Region.wanted o (yielded ops a.tmps) = true) (hφ : Φ k = some φ)
  (h : ∀ w,Below W.heap.size W w → known ops o F w → callsAt P o a φ w) (hK : ∀ v,φ.σ v → wpG P ops W Φ K (k + 1) r (a.put o.dst v) (putF F o.dst (φ.φ v))) (hfr : φ.fr = false := by rfl) : wpG P ops W Φ K k (o :: r) a F := by
 show gStep P ops W o (Φ k) _ a F
 unfold gStep
 rw [if_pos hw,hφ]
 exact ⟨fun w h1 h2 => .inl ⟨hfr,h w h1 h2⟩,hK⟩
theorem wpG_newW {K : Act → FactsT → Prop} {k : Nat} {o : Oper} {r : List Oper} {a : Act} {F : FactsT} {φ : GPost} (hw : Region.wanted o (yielded ops a.tmps) = true) (hφ : Φ k = some φ)
  (h : ∀ w,Below W.heap.size W w → known ops o F w → newAt P o a φ w) (hK : ∀ v,φ.σ v → wpG P ops W Φ K (k + 1) r (a.put o.dst v) (putF F o.dst (φ.φ v))) : wpG P ops W Φ K k (o :: r) a F := by
 show gStep P ops W o (Φ k) _ a F
 unfold gStep
 rw [if_pos hw,hφ]
 exact ⟨fun w h1 h2 => .inr (h w h1 h2),hK⟩
end
end Go.Proofs.YtbhmkcjddpniiaaGreatDoor

namespace Go.Proofs.YtbhmkcjddpniiaaGreatDoor
open Go.RowKit Go.Shelf
theorem int_flat (l : List Int) : l.flatMap (fun z => [Value.int .i64 z]) = l.map (Value.int .i64) := by induction l with
 | nil => rfl
 | cons x r ih => rw [List.flatMap_cons,ih];rfl
theorem row_there1 {w : World} {b n c : Nat} {t : TypeId} {A : Option Addr} {xs : List Value} (ho : w.ownsRow b t 1 (.slice A n c) n xs) {j : Nat} (hj : j < n) : ∃ g u,A = some ⟨g,0,none⟩ ∧ n ≤ c ∧ g < w.heap.size ∧ b ≤ g ∧ w.cell? ⟨g,j,none⟩ = some u ∧ w.frozen? ⟨g,j,none⟩ = false := by
 have hl : j < xs.length := by have := ho.1;omega
 rcases ho.2 with ⟨_,e0⟩ | ⟨g,cap,cur,e0,hb,hg,hnc,_⟩
 ·omega
 ·injection e0 with e1 _ e2
  subst e1 e2
  have := ho.cells (g := g) (by simp [Value.ownBlock]) j xs[j] (List.getElem?_eq_getElem hl)
  rw [Addr.add_lit,Nat.zero_add] at this
  exact ⟨g,xs[j],rfl,hnc,(Array.getElem?_eq_some_iff.1 hg).1,hb,this,by simp [World.frozen?,hg]⟩
theorem lines_two {s : SetT} (h : setB s = true) : 2 ≤ s.lines.length := by
 have hl := (setB_ok h).lines
 unfold linesB at hl
 simp only [Bool.and_eq_true] at hl
 have hb := between_bd hl.1
 omega
def gTr : GPost := ⟨fun v => v = .bool true,fun _ _ => True,⟨_,rfl⟩,fun _ _ _ _ h => h,false⟩
def gLit (nm : ByteArray) : GPost := ⟨fun v => ∃ b,v = .slice (some ⟨b,0,none⟩) 1 1,fun v w => Flat w w.heap.size v 1 [.string nm],⟨_,0,rfl⟩,fun _ _ _ hb h => Flat.mono (Flat.below h hb (Nat.le_refl _)) hb.size,false⟩
theorem gLit_new {P : Program} {o : Oper} {a : Act} {w : World} {nm : ByteArray} (h : (execOp a.eval o).run P w = .ok (.value (.slice (some ⟨w.heap.size,0,none⟩) 1 1)) (w.alloc (.cells #[.string nm] 9))) : newAt P o a (gLit nm) w :=
 ⟨_,_,h,(Below.refl _ _).alloc (Nat.le_refl _) _,⟨_,rfl⟩,⟨_,_,rfl,Nat.le_refl _,by unfold maxLen;decide,fun _ => ⟨w.heap.size,0,rfl,by simp,fun j u hu => by
  rw [Nat.zero_add,(Blk.new w 9 #[.string nm]).cell j,List.getElem?_toArray]
  exact hu⟩⟩,fun h => by cases h⟩
set_option maxRecDepth 100000 in
set_option maxHeartbeats 16000000 in
theorem lawApart (v : Value) (x : SetT) (w : World) (hv : SetAt w w.heap.size v x) (hn : SetNames x) (ht : Tab w) :
  Calls Tryz.prog 4 #[v] w fun e w' => e = .returned (.bool true) ∧ Below w.heap.size w w' := by
 have HT := Lib.hid fun W (hb : Below w.heap.size w W) => ht.below hb
 have HXs := Lib.hid fun W (hb : Below w.heap.size w W) => (hv.below hb (Nat.le_refl _)).mono hb.size
 obtain ⟨Al,cl,Ai,ci,Ab,cb,rfl,-,-,-⟩ := hv
 have HXn := Lib.hid hn
 have hba := (Below.refl _ w).alloc (Nat.le_refl _) (.cells #[.string x.name,.int .i64 x.depth,.int .i64 x.low,.int .i64 x.high,.int .i64 x.len,.slice Al x.lines.length cl,.int .i64 x.pipe,.int .i64 x.arbor,.int .i64 x.purch,.int .i64 x.most,.int .i64 x.brake,.slice Ai x.items.length ci,.slice Ab x.bricks.length cb] 26)
 have hAw := lawAwake49 (w.alloc (.cells #[.string x.name,.int .i64 x.depth,.int .i64 x.low,.int .i64 x.high,.int .i64 x.len,.slice Al x.lines.length cl,.int .i64 x.pipe,.int .i64 x.arbor,.int .i64 x.purch,.int .i64 x.most,.int .i64 x.brake,.slice Ai x.items.length ci,.slice Ab x.bricks.length cb] 26)) (HT.out _ hba)
 have HBa := Lib.hid hba
 have HXa := Lib.hid (Blk.new w 26 #[.string x.name,.int .i64 x.depth,.int .i64 x.low,.int .i64 x.high,.int .i64 x.len,.slice Al x.lines.length cl,.int .i64 x.pipe,.int .i64 x.arbor,.int .i64 x.purch,.int .i64 x.most,.int .i64 x.brake,.slice Ai x.items.length ci,.slice Ab x.bricks.length cb])
 clear ht hn hba
 unfold setVal at *
 go_enter Tryz.func4,Tryz.ntmps4
 go_wp2_with fail
 generalize (w.alloc (.cells #[.string x.name,.int .i64 x.depth,.int .i64 x.low,.int .i64 x.high,.int .i64 x.len,.slice Al x.lines.length cl,.int .i64 x.pipe,.int .i64 x.arbor,.int .i64 x.purch,.int .i64 x.most,.int .i64 x.brake,.slice Ai x.items.length ci,.slice Ab x.bricks.length cb] 26)) = w0 at *
 refine hAw.mono ?_
 rintro e w1 ⟨rfl,hb1⟩
 have HB1 := Lib.hid (HBa.out.trans (hb1.mono HBa.out.size))
 have HX1 := Lib.hid (HXa.out.below hb1 HXa.out.lt)
 have hSm := refSmall _ x 6 w1 (HXs.out _ HB1.out) HXn.out.name HXn.out.items HXn.out.bricks
 clear hAw hb1 HBa HXa
 have p0 := HX1.out.cell 0
 have p1 := HX1.out.cell 1
 have p2 := HX1.out.cell 2
 have p3 := HX1.out.cell 3
 have p4 := HX1.out.cell 4
 have p5 := HX1.out.cell 5
 have p6 := HX1.out.cell 6
 have p7 := HX1.out.cell 7
 have p8 := HX1.out.cell 8
 have p9 := HX1.out.cell 9
 have p10 := HX1.out.cell 10
 have p11 := HX1.out.cell 11
 have p12 := HX1.out.cell 12
 simp only [List.getElem?_toArray,List.getElem?_cons_succ,List.getElem?_cons_zero] at p0 p1 p2 p3 p4 p5 p6 p7 p8 p9 p10 p11 p12
 go_wp2_with fail
 refine hSm.mono ?_
 rintro e w2 ⟨q,rfl,hb2⟩
 have HB2 := Lib.hid (HB1.out.trans (hb2.mono HB1.out.size))
 have HX2 := Lib.hid (HX1.out.below hb2 HX1.out.lt)
 clear hb2 hSm HB1 HX1 p0 p1 p2 p3 p4 p5 p6 p7 p8 p9 p10 p11 p12
 cases q with
 | false =>
  go_wp2_with fail
  go_ret
  exact ⟨rfl,HB2.out⟩
 | true =>
  have hVa := batValid _ x w2 (HXs.out _ HB2.out) HXn.out
  have p0 := HX2.out.cell 0
  have p1 := HX2.out.cell 1
  have p2 := HX2.out.cell 2
  have p3 := HX2.out.cell 3
  have p4 := HX2.out.cell 4
  have p5 := HX2.out.cell 5
  have p6 := HX2.out.cell 6
  have p7 := HX2.out.cell 7
  have p8 := HX2.out.cell 8
  have p9 := HX2.out.cell 9
  have p10 := HX2.out.cell 10
  have p11 := HX2.out.cell 11
  have p12 := HX2.out.cell 12
  simp only [List.getElem?_toArray,List.getElem?_cons_succ,List.getElem?_cons_zero] at p0 p1 p2 p3 p4 p5 p6 p7 p8 p9 p10 p11 p12
  go_wp2_with fail
  refine hVa.mono ?_
  rintro e w3 ⟨rfl,hb3⟩
  have HB3 := Lib.hid (HB2.out.trans (hb3.mono HB2.out.size))
  have HX3 := Lib.hid (HX2.out.below hb3 HX2.out.lt)
  clear hb3 hVa HB2 HX2 p0 p1 p2 p3 p4 p5 p6 p7 p8 p9 p10 p11 p12
  rcases Bool.eq_false_or_eq_true (setB x) with hvx | hvx
  rotate_left
  ·rw [hvx]
   clear hvx
   go_wp2_with fail
   go_ret
   exact ⟨rfl,HB3.out⟩
  rw [hvx]
  have HVx := Lib.hid hvx
  clear hvx
  go_wp2_with fail
  refine (stNew w.heap.size w3 HB3.out.size).mono ?_
  rintro e w4 ⟨D,rfl,hb4,hS4⟩
  have HI4 : Hid (Ap49 w w4 D (fun _ => False) st0 r0 #[.string x.name,.int .i64 x.depth,.int .i64 x.low,.int .i64 x.high,.int .i64 x.len,.slice Al x.lines.length cl,.int .i64 x.pipe,.int .i64 x.arbor,.int .i64 x.purch,.int .i64 x.most,.int .i64 x.brake,.slice Ai x.items.length ci,.slice Ab x.bricks.length cb]) := ⟨HB3.out.trans (hb4.mono HB3.out.size),hS4,HX3.out.below hb4 HX3.out.lt⟩
  have hCo := refCopy21 _ x w4 (HXs.out _ HI4.out.bel) (lens_valid HVx.out).1 (lens_valid HVx.out).2.1 (lens_valid HVx.out).2.2
  clear hb4 hS4 HB3 HX3
  have p0 := HI4.out.box.cell 0
  have p1 := HI4.out.box.cell 1
  have p2 := HI4.out.box.cell 2
  have p3 := HI4.out.box.cell 3
  have p4 := HI4.out.box.cell 4
  have p5 := HI4.out.box.cell 5
  have p6 := HI4.out.box.cell 6
  have p7 := HI4.out.box.cell 7
  have p8 := HI4.out.box.cell 8
  have p9 := HI4.out.box.cell 9
  have p10 := HI4.out.box.cell 10
  have p11 := HI4.out.box.cell 11
  have p12 := HI4.out.box.cell 12
  simp only [List.getElem?_toArray,List.getElem?_cons_succ,List.getElem?_cons_zero] at p0 p1 p2 p3 p4 p5 p6 p7 p8 p9 p10 p11 p12
  go_wp2_with fail
  refine hCo.mono ?_
  rintro e w5 ⟨hb5,A1,k1,A2,k2,A3,k3,rfl,o1,o2,o3⟩
  unfold setVal
  have ha := (Below.refl w5.heap.size w5).alloc (Nat.le_refl _) (.cells #[.string x.name,.int .i64 x.depth,.int .i64 x.low,.int .i64 x.high,.int .i64 x.len,.slice A1 x.lines.length k1,.int .i64 x.pipe,.int .i64 x.arbor,.int .i64 x.purch,.int .i64 x.most,.int .i64 x.brake,.slice A2 x.items.length k2,.slice A3 x.bricks.length k3] 26)
  have hb5a := hb5.trans (ha.mono hb5.size)
  have HI5 := Lib.hid (HI4.out.below hb5a)
  have HY5 := Lib.hid (Blk.new w5 26 #[.string x.name,.int .i64 x.depth,.int .i64 x.low,.int .i64 x.high,.int .i64 x.len,.slice A1 x.lines.length k1,.int .i64 x.pipe,.int .i64 x.arbor,.int .i64 x.purch,.int .i64 x.most,.int .i64 x.brake,.slice A2 x.items.length k2,.slice A3 x.bricks.length k3])
  have HR1 := Lib.hid (own_mono (own_belowL o1 ha) HI4.out.bel.size)
  have HR2 := Lib.hid (own_mono (own_belowL o2 ha) HI4.out.bel.size)
  have HR3 := Lib.hid (own_mono (own_belowL o3 ha) HI4.out.bel.size)
  have hPu := (stPut w.heap.size D _ st0 r0 (setVal x A1 k1 A2 k2 A3 k3) x _ HI5.out.store stOk_new ⟨_,_,_,_,_,_,rfl,Flat.of_own HR1.out,Flat.of_own HR2.out,Flat.of_own HR3.out⟩ HXn.out (by decide))
  rw [st1_put HVx.out] at hPu
  clear hb5 ha hb5a o1 o2 o3 hCo HI4 p0 p1 p2 p3 p4 p5 p6 p7 p8 p9 p10 p11 p12
  unfold setVal at hPu
  have q0 := HY5.out.cell 0
  have q1 := HY5.out.cell 1
  have q2 := HY5.out.cell 2
  have q3 := HY5.out.cell 3
  have q4 := HY5.out.cell 4
  have q5 := HY5.out.cell 5
  have q6 := HY5.out.cell 6
  have q7 := HY5.out.cell 7
  have q8 := HY5.out.cell 8
  have q9 := HY5.out.cell 9
  have q10 := HY5.out.cell 10
  have q11 := HY5.out.cell 11
  have q12 := HY5.out.cell 12
  simp only [List.getElem?_toArray,List.getElem?_cons_succ,List.getElem?_cons_zero] at q0 q1 q2 q3 q4 q5 q6 q7 q8 q9 q10 q11 q12
  go_wp2_with fail
  refine hPu.mono ?_
  rintro e w6 ⟨rfl,hc6,M,r,hS6,hM6⟩
  have HI6 : Hid (Ap49 w w6 D M (st1of x) r #[.string x.name,.int .i64 x.depth,.int .i64 x.low,.int .i64 x.high,.int .i64 x.len,.slice Al x.lines.length cl,.int .i64 x.pipe,.int .i64 x.arbor,.int .i64 x.purch,.int .i64 x.most,.int .i64 x.brake,.slice Ai x.items.length ci,.slice Ab x.bricks.length cb]) := HI5.out.chg hc6 hS6
  have HY6 := Lib.hid (HY5.out.chg hc6 (by decide) (by decide))
  have hM1 : ∀ g,(Value.slice A1 x.lines.length k1).ownBlock = some g → ¬ M g := fun g e hg => (hM6 g hg).elim id fun h => Nat.not_le_of_gt (HR1.out.lt g e).2 h
  have hM2 : ∀ g,(Value.slice A2 x.items.length k2).ownBlock = some g → ¬ M g := fun g e hg => (hM6 g hg).elim id fun h => Nat.not_le_of_gt (HR2.out.lt g e).2 h
  have hM3 : ∀ g,(Value.slice A3 x.bricks.length k3).ownBlock = some g → ¬ M g := fun g e hg => (hM6 g hg).elim id fun h => Nat.not_le_of_gt (HR3.out.lt g e).2 h
  replace HR1 := Lib.hid (own_chg HR1.out hc6 (by decide) (by decide))
  replace HR2 := Lib.hid (own_chg HR2.out hc6 (by decide) (by decide))
  replace HR3 := Lib.hid (own_chg HR3.out hc6 (by decide) (by decide))
  have HM2 := Lib.hid hM2
  have HM3 := Lib.hid hM3
  have hln : 0 < x.lines.length := by have := lines_two HVx.out;omega
  have hln' : (0 : Int) < (x.lines.length : Int) := by omega
  have hi1000 : x.items.length ≤ 1000 := (lens_valid HVx.out).2.1
  have hk1000 : x.bricks.length ≤ 1000 := (lens_valid HVx.out).2.2
  clear hc6 hS6 hM6 hPu HI5 HY5 hM2 hM3 q0 q1 q2 q3 q4 q5 q6 q7 q8 q9 q10 q11 q12
  obtain ⟨gl,zl,rfl,hkl,hgl,hbl,hcl,hfl⟩ := (intCol_flat (fun z => [Value.int .i64 z]) (fun _ => rfl) (by decide : 0 < 1) x.lines (fun z => ⟨z,rfl⟩)).cell (by rw [int_flat];exact HR1.out) hln
  rw [Nat.zero_mul,Nat.add_zero] at hcl hfl
  have HS := Lib.hid fun u => (HR1.out.stored 0 u).2
  have HI7 := Lib.hid fun u => HI6.out.row HR1.out (Nat.le_refl _) (by decide) (by decide) (by decide) hM1 (HS.out u)
  have HY7 := Lib.hid fun u => blk_row HR1.out (HS.out u) HY6.out (by decide)
  replace HR2 := Lib.hid fun u => row_row HR1.out (HS.out u) HR2.out (by decide)
  replace HR3 := Lib.hid fun u => row_row HR1.out (HS.out u) HR3.out (by decide)
  have y5 := HY6.out.cell 5
  simp only [List.getElem?_toArray,List.getElem?_cons_succ,List.getElem?_cons_zero] at y5
  have hby := HY6.out.lt
  clear hM1 HR1 HS
  go_upto_region 12 with fail
  replace HI7 := Lib.hid (HI7.out (.int .i64 (wrap64 (zl + 1))))
  replace HY7 := Lib.hid (HY7.out (.int .i64 (wrap64 (zl + 1))))
  replace HR2 := Lib.hid (HR2.out (.int .i64 (wrap64 (zl + 1))))
  replace HR3 := Lib.hid (HR3.out (.int .i64 (wrap64 (zl + 1))))
  clear y5 hcl hfl HI6 HY6
  generalize (w6.setCell ⟨gl,0,none⟩ (.int .i64 (wrap64 (zl + 1)))) = w7 at *
  have y11 := HY7.out.cell 11
  simp only [List.getElem?_toArray,List.getElem?_cons_succ,List.getElem?_cons_zero] at y11
  go_wp2_with fail
  go_loopw [50] (fun xx wq => ∃ (j : Nat) (xs : List Value),j ≤ x.items.length ∧ xx = .int .i64 j ∧ Ap49 w wq D M (st1of x) r #[.string x.name,.int .i64 x.depth,.int .i64 x.low,.int .i64 x.high,.int .i64 x.len,.slice Al x.lines.length cl,.int .i64 x.pipe,.int .i64 x.arbor,.int .i64 x.purch,.int .i64 x.most,.int .i64 x.brake,.slice Ai x.items.length ci,.slice Ab x.bricks.length cb] ∧ Blk wq w5.heap.size 26 #[.string x.name,.int .i64 x.depth,.int .i64 x.low,.int .i64 x.high,.int .i64 x.len,.slice (some ⟨gl,0,none⟩) x.lines.length k1,.int .i64 x.pipe,.int .i64 x.arbor,.int .i64 x.purch,.int .i64 x.most,.int .i64 x.brake,.slice A2 x.items.length k2,.slice A3 x.bricks.length k3] ∧ wq.ownsRow w.heap.size 47 7 (.slice A2 x.items.length k2) x.items.length xs ∧ IntCol xs 7 3 x.items.length j ∧ wq.ownsRow w.heap.size 49 3 (.slice A3 x.bricks.length k3) x.bricks.length (x.bricks.flatMap BrickT.cells)) (fun xx _ => x.items.length - (intOf xx).toNat)
  case atStart => exact ⟨0,_,Nat.zero_le _,rfl,HI7.out,HY7.out,HR2.out,intCol_flat ItemT.cells (fun _ => rfl) (by decide) x.items (fun q => ⟨_,rfl⟩),HR3.out⟩
  case round =>
   clear HI7 HY7 HR2 y11 HR3
   obtain ⟨j,xs,hj,rfl,hI,hY,hR,hC,hr0⟩ := hrel
   have y11 := hY.cell 11
   simp only [List.getElem?_toArray,List.getElem?_cons_succ,List.getElem?_cons_zero] at y11
   by_cases hlt : j < x.items.length
   ·obtain ⟨g,z,rfl,hkc,hgl2,hbl2,hcz,hfz⟩ := hC.cell hR hlt
    have HS := Lib.hid fun u => hR.stored (j * 7 + 3) u
    have HI := Lib.hid fun u => hI.row hR (Nat.le_refl _) (by decide) (by decide) (by decide) HM2.out (HS.out u).2
    have HY := Lib.hid fun u => blk_row hR (HS.out u).2 hY (by decide)
    have HC := Lib.hid fun u => hC.set (u := u) (by decide)
    have Hr0 := Lib.hid fun u => row_row hR (HS.out u).2 hr0 (by decide)
    clear hI hR hC hY hr0
    go_wp2_with fail
    go_roundw
    case rel => exact ⟨j + 1,_,by omega,by go_num,HI.out _,HY.out _,(HS.out _).1,HC.out _,Hr0.out _⟩
    case measure => simp [intOf];omega
   ·have hje : j = x.items.length := by omega
    subst hje
    have HI8 := Lib.hid hI
    have HY8 := Lib.hid hY
    have HR3 := Lib.hid hr0
    clear hI hY hR hC y11 hr0
    have y12 := HY8.out.cell 12
    simp only [List.getElem?_toArray,List.getElem?_cons_succ,List.getElem?_cons_zero] at y12
    go_wp2_with fail
    go_loopw [66] (fun xx wq => ∃ (j : Nat) (xs : List Value),j ≤ x.bricks.length ∧ xx = .int .i64 j ∧ Ap49 w wq D M (st1of x) r #[.string x.name,.int .i64 x.depth,.int .i64 x.low,.int .i64 x.high,.int .i64 x.len,.slice Al x.lines.length cl,.int .i64 x.pipe,.int .i64 x.arbor,.int .i64 x.purch,.int .i64 x.most,.int .i64 x.brake,.slice Ai x.items.length ci,.slice Ab x.bricks.length cb] ∧ Blk wq w5.heap.size 26 #[.string x.name,.int .i64 x.depth,.int .i64 x.low,.int .i64 x.high,.int .i64 x.len,.slice (some ⟨gl,0,none⟩) x.lines.length k1,.int .i64 x.pipe,.int .i64 x.arbor,.int .i64 x.purch,.int .i64 x.most,.int .i64 x.brake,.slice A2 x.items.length k2,.slice A3 x.bricks.length k3] ∧ wq.ownsRow w.heap.size 49 3 (.slice A3 x.bricks.length k3) x.bricks.length xs ∧ IntCol xs 3 2 x.bricks.length j) (fun xx _ => x.bricks.length - (intOf xx).toNat)
    case atStart => exact ⟨0,_,Nat.zero_le _,rfl,HI8.out,HY8.out,HR3.out,intCol_flat BrickT.cells (fun _ => rfl) (by decide) x.bricks (fun q => ⟨_,rfl⟩)⟩
    case round =>
     clear HI8 HY8 HR3 y12 
     obtain ⟨j,xs,hj,rfl,hI,hY,hR,hC⟩ := hrel
     have y12 := hY.cell 12
     simp only [List.getElem?_toArray,List.getElem?_cons_succ,List.getElem?_cons_zero] at y12
     by_cases hlt : j < x.bricks.length
     ·obtain ⟨g,z,rfl,hkc,hgl2,hbl2,hcz,hfz⟩ := hC.cell hR hlt
      have HS := Lib.hid fun u => hR.stored (j * 3 + 2) u
      have HI := Lib.hid fun u => hI.row hR (Nat.le_refl _) (by decide) (by decide) (by decide) HM3.out (HS.out u).2
      have HY := Lib.hid fun u => blk_row hR (HS.out u).2 hY (by decide)
      have HC := Lib.hid fun u => hC.set (u := u) (by decide)
      clear hI hR hC hY 
      go_wp2_with fail
      go_roundw
      case rel => exact ⟨j + 1,_,by omega,by go_num,HI.out _,HY.out _,(HS.out _).1,HC.out _⟩
      case measure => simp [intOf];omega
     ·have hje : j = x.bricks.length := by omega
      subst hje
      have HI9 := Lib.hid hI
      have HY9 := Lib.hid hY
      clear hI hY hR hC y12 
      have hG := (stGet w.heap.size D M (st1of x) r x.name _ HI9.out.store (st1_ok HVx.out)).mono fun _ _ hp => get_at hp (st1_get x)
      have HBx := Lib.hid HI9.out.box
      have y0 := HBx.out.cell 0
      simp only [List.getElem?_toArray,List.getElem?_cons_zero] at y0
      clear HY9 HM2 HM3 hln' hkl hgl hbl hby
      go_wp2_with fail
      refine hG.mono ?_
      rintro e w10 ⟨hb10,⟨s,A1,k1,A2,k2,A3,k3⟩,rfl,hs,o1,o2,o3⟩
      simp only at hs o1 o2 o3
      subst s
      have hM1 : ∀ g,(Value.slice A1 x.lines.length k1).ownBlock = some g → ¬ M g := fun g e hg => Nat.not_le_of_gt (HI9.out.store.lt g hg) (o1.lt g e).1
      have hM2 : ∀ g,(Value.slice A2 x.items.length k2).ownBlock = some g → ¬ M g := fun g e hg => Nat.not_le_of_gt (HI9.out.store.lt g hg) (o2.lt g e).1
      have hM3 : ∀ g,(Value.slice A3 x.bricks.length k3).ownBlock = some g → ¬ M g := fun g e hg => Nat.not_le_of_gt (HI9.out.store.lt g hg) (o3.lt g e).1
      have ha := (Below.refl w10.heap.size w10).alloc (Nat.le_refl _) (.cells #[.string x.name,.int .i64 x.depth,.int .i64 x.low,.int .i64 x.high,.int .i64 x.len,.slice A1 x.lines.length k1,.int .i64 x.pipe,.int .i64 x.arbor,.int .i64 x.purch,.int .i64 x.most,.int .i64 x.brake,.slice A2 x.items.length k2,.slice A3 x.bricks.length k3] 26)
      have hb10a := hb10.trans (ha.mono hb10.size)
      have HI10 := Lib.hid (HI9.out.below hb10a)
      have HY10 := Lib.hid (Blk.new w10 26 #[.string x.name,.int .i64 x.depth,.int .i64 x.low,.int .i64 x.high,.int .i64 x.len,.slice A1 x.lines.length k1,.int .i64 x.pipe,.int .i64 x.arbor,.int .i64 x.purch,.int .i64 x.most,.int .i64 x.brake,.slice A2 x.items.length k2,.slice A3 x.bricks.length k3])
      have HR1 := Lib.hid (own_mono (own_belowL o1 ha) HI9.out.bel.size)
      have HR2 := Lib.hid (own_mono (own_belowL o2 ha) HI9.out.bel.size)
      have HR3 := Lib.hid (own_mono (own_belowL o3 ha) HI9.out.bel.size)
      have hSa := refSame21 (setVal x A1 k1 A2 k2 A3 k3) _ x x _ ⟨_,_,_,_,_,_,rfl,Flat.of_own HR1.out,Flat.of_own HR2.out,Flat.of_own HR3.out⟩ (HXs.out _ HI10.out.bel)
      rw [decide_eq_true rfl] at hSa
      have HM2 := Lib.hid hM2
      have HM3 := Lib.hid hM3
      clear hb10 ha hb10a o1 o2 o3 hG y0 HI9 HBx hM2 hM3
      unfold SetC.val setVal at *
      go_upto_region 23 with fail
      generalize (w10.alloc (.cells #[.string x.name,.int .i64 x.depth,.int .i64 x.low,.int .i64 x.high,.int .i64 x.len,.slice A1 x.lines.length k1,.int .i64 x.pipe,.int .i64 x.arbor,.int .i64 x.purch,.int .i64 x.most,.int .i64 x.brake,.slice A2 x.items.length k2,.slice A3 x.bricks.length k3] 26)) = w11 at *
      generalize w10.heap.size = b7 at *
      have p0 := HI10.out.box.cell 0
      have p1 := HI10.out.box.cell 1
      have p2 := HI10.out.box.cell 2
      have p3 := HI10.out.box.cell 3
      have p4 := HI10.out.box.cell 4
      have p5 := HI10.out.box.cell 5
      have p6 := HI10.out.box.cell 6
      have p7 := HI10.out.box.cell 7
      have p8 := HI10.out.box.cell 8
      have p9 := HI10.out.box.cell 9
      have p10 := HI10.out.box.cell 10
      have p11 := HI10.out.box.cell 11
      have p12 := HI10.out.box.cell 12
      simp only [List.getElem?_toArray,List.getElem?_cons_succ,List.getElem?_cons_zero] at p0 p1 p2 p3 p4 p5 p6 p7 p8 p9 p10 p11 p12
      have q0 := HY10.out.cell 0
      have q1 := HY10.out.cell 1
      have q2 := HY10.out.cell 2
      have q3 := HY10.out.cell 3
      have q4 := HY10.out.cell 4
      have q5 := HY10.out.cell 5
      have q6 := HY10.out.cell 6
      have q7 := HY10.out.cell 7
      have q8 := HY10.out.cell 8
      have q9 := HY10.out.cell 9
      have q10 := HY10.out.cell 10
      have q11 := HY10.out.cell 11
      have q12 := HY10.out.cell 12
      simp only [List.getElem?_toArray,List.getElem?_cons_succ,List.getElem?_cons_zero] at q0 q1 q2 q3 q4 q5 q6 q7 q8 q9 q10 q11 q12
      go_wp2_with fail
      refine hSa.mono ?_
      rintro e w12 ⟨rfl,hb12⟩
      have HI6 := Lib.hid (HI10.out.below hb12)
      have HY6 := Lib.hid (HY10.out.below hb12 HY10.out.lt)
      replace HR1 := Lib.hid (own_belowL HR1.out hb12)
      replace HR2 := Lib.hid (own_belowL HR2.out hb12)
      replace HR3 := Lib.hid (own_belowL HR3.out hb12)
      have hln' : (0 : Int) < (x.lines.length : Int) := by omega
      clear hb12 hSa HI10 HY10 p0 p1 p2 p3 p4 p5 p6 p7 p8 p9 p10 p11 p12 q0 q1 q2 q3 q4 q5 q6 q7 q8 q9 q10 q11 q12
      obtain ⟨gl,zl,rfl,hkl,hgl,hbl,hcl,hfl⟩ := (intCol_flat (fun z => [Value.int .i64 z]) (fun _ => rfl) (by decide : 0 < 1) x.lines (fun z => ⟨z,rfl⟩)).cell (by rw [int_flat];exact HR1.out) hln
      rw [Nat.zero_mul,Nat.add_zero] at hcl hfl
      have HS := Lib.hid fun u => (HR1.out.stored 0 u).2
      have HI7 := Lib.hid fun u => HI6.out.row HR1.out (Nat.le_refl _) (by decide) (by decide) (by decide) hM1 (HS.out u)
      have HY7 := Lib.hid fun u => blk_row HR1.out (HS.out u) HY6.out (by decide)
      replace HR2 := Lib.hid fun u => row_row HR1.out (HS.out u) HR2.out (by decide)
      replace HR3 := Lib.hid fun u => row_row HR1.out (HS.out u) HR3.out (by decide)
      have y5 := HY6.out.cell 5
      simp only [List.getElem?_toArray,List.getElem?_cons_succ,List.getElem?_cons_zero] at y5
      have hby := HY6.out.lt
      clear hM1 HR1 HS
      go_upto_region 26 with fail
      replace HI7 := Lib.hid (HI7.out (.int .i64 (wrap64 (zl + 1))))
      replace HY7 := Lib.hid (HY7.out (.int .i64 (wrap64 (zl + 1))))
      replace HR2 := Lib.hid (HR2.out (.int .i64 (wrap64 (zl + 1))))
      replace HR3 := Lib.hid (HR3.out (.int .i64 (wrap64 (zl + 1))))
      clear y5 hcl hfl HI6 HY6
      generalize (w12.setCell ⟨gl,0,none⟩ (.int .i64 (wrap64 (zl + 1)))) = w13 at *
      have y11 := HY7.out.cell 11
      simp only [List.getElem?_toArray,List.getElem?_cons_succ,List.getElem?_cons_zero] at y11
      go_wp2_with fail
      go_loopw [103] (fun xx wq => ∃ (j : Nat) (xs : List Value),j ≤ x.items.length ∧ xx = .int .i64 j ∧ Ap49 w wq D M (st1of x) r #[.string x.name,.int .i64 x.depth,.int .i64 x.low,.int .i64 x.high,.int .i64 x.len,.slice Al x.lines.length cl,.int .i64 x.pipe,.int .i64 x.arbor,.int .i64 x.purch,.int .i64 x.most,.int .i64 x.brake,.slice Ai x.items.length ci,.slice Ab x.bricks.length cb] ∧ Blk wq b7 26 #[.string x.name,.int .i64 x.depth,.int .i64 x.low,.int .i64 x.high,.int .i64 x.len,.slice (some ⟨gl,0,none⟩) x.lines.length k1,.int .i64 x.pipe,.int .i64 x.arbor,.int .i64 x.purch,.int .i64 x.most,.int .i64 x.brake,.slice A2 x.items.length k2,.slice A3 x.bricks.length k3] ∧ wq.ownsRow w.heap.size 47 7 (.slice A2 x.items.length k2) x.items.length xs ∧ IntCol xs 7 1 x.items.length j ∧ wq.ownsRow w.heap.size 49 3 (.slice A3 x.bricks.length k3) x.bricks.length (x.bricks.flatMap BrickT.cells)) (fun xx _ => x.items.length - (intOf xx).toNat)
      case atStart => exact ⟨0,_,Nat.zero_le _,rfl,HI7.out,HY7.out,HR2.out,intCol_flat ItemT.cells (fun _ => rfl) (by decide) x.items (fun q => ⟨_,rfl⟩),HR3.out⟩
      case round =>
       clear HI7 HY7 HR2 y11 HR3
       obtain ⟨j,xs,hj,rfl,hI,hY,hR,hC,hr0⟩ := hrel
       have y11 := hY.cell 11
       simp only [List.getElem?_toArray,List.getElem?_cons_succ,List.getElem?_cons_zero] at y11
       by_cases hlt : j < x.items.length
       ·obtain ⟨g,z,rfl,hkc,hgl2,hbl2,hcz,hfz⟩ := hC.cell hR hlt
        have HS := Lib.hid fun u => hR.stored (j * 7 + 1) u
        have HI := Lib.hid fun u => hI.row hR (Nat.le_refl _) (by decide) (by decide) (by decide) HM2.out (HS.out u).2
        have HY := Lib.hid fun u => blk_row hR (HS.out u).2 hY (by decide)
        have HC := Lib.hid fun u => hC.set (u := u) (by decide)
        have Hr0 := Lib.hid fun u => row_row hR (HS.out u).2 hr0 (by decide)
        clear hI hR hC hY hr0
        go_wp2_with fail
        go_roundw
        case rel => exact ⟨j + 1,_,by omega,by go_num,HI.out _,HY.out _,(HS.out _).1,HC.out _,Hr0.out _⟩
        case measure => simp [intOf];omega
       ·have hje : j = x.items.length := by omega
        subst hje
        have HI8 := Lib.hid hI
        have HY8 := Lib.hid hY
        have HR3 := Lib.hid hr0
        clear hI hY hR hC y11 hr0
        have y12 := HY8.out.cell 12
        simp only [List.getElem?_toArray,List.getElem?_cons_succ,List.getElem?_cons_zero] at y12
        go_wp2_with fail
        go_loopw [119] (fun xx wq => ∃ (j : Nat) (xs : List Value),j ≤ x.bricks.length ∧ xx = .int .i64 j ∧ Ap49 w wq D M (st1of x) r #[.string x.name,.int .i64 x.depth,.int .i64 x.low,.int .i64 x.high,.int .i64 x.len,.slice Al x.lines.length cl,.int .i64 x.pipe,.int .i64 x.arbor,.int .i64 x.purch,.int .i64 x.most,.int .i64 x.brake,.slice Ai x.items.length ci,.slice Ab x.bricks.length cb] ∧ Blk wq b7 26 #[.string x.name,.int .i64 x.depth,.int .i64 x.low,.int .i64 x.high,.int .i64 x.len,.slice (some ⟨gl,0,none⟩) x.lines.length k1,.int .i64 x.pipe,.int .i64 x.arbor,.int .i64 x.purch,.int .i64 x.most,.int .i64 x.brake,.slice A2 x.items.length k2,.slice A3 x.bricks.length k3] ∧ wq.ownsRow w.heap.size 49 3 (.slice A3 x.bricks.length k3) x.bricks.length xs ∧ IntCol xs 3 1 x.bricks.length j) (fun xx _ => x.bricks.length - (intOf xx).toNat)
        case atStart => exact ⟨0,_,Nat.zero_le _,rfl,HI8.out,HY8.out,HR3.out,intCol_flat BrickT.cells (fun _ => rfl) (by decide) x.bricks (fun q => ⟨_,rfl⟩)⟩
        case round =>
         clear HI8 HY8 HR3 y12 
         obtain ⟨j,xs,hj,rfl,hI,hY,hR,hC⟩ := hrel
         have y12 := hY.cell 12
         simp only [List.getElem?_toArray,List.getElem?_cons_succ,List.getElem?_cons_zero] at y12
         by_cases hlt : j < x.bricks.length
         ·obtain ⟨g,z,rfl,hkc,hgl2,hbl2,hcz,hfz⟩ := hC.cell hR hlt
          have HS := Lib.hid fun u => hR.stored (j * 3 + 1) u
          have HI := Lib.hid fun u => hI.row hR (Nat.le_refl _) (by decide) (by decide) (by decide) HM3.out (HS.out u).2
          have HY := Lib.hid fun u => blk_row hR (HS.out u).2 hY (by decide)
          have HC := Lib.hid fun u => hC.set (u := u) (by decide)
          clear hI hR hC hY 
          go_wp2_with fail
          go_roundw
          case rel => exact ⟨j + 1,_,by omega,by go_num,HI.out _,HY.out _,(HS.out _).1,HC.out _⟩
          case measure => simp [intOf];omega
         ·have hje : j = x.bricks.length := by omega
          subst hje
          have HI9 := Lib.hid hI
          have HY9 := Lib.hid hY
          clear hI hY hR hC y12 
          have hL := (stLines w.heap.size D M (st1of x) r x.name _ HI9.out.store (st1_ok HVx.out) (HT.out _ HI9.out.bel) (Nat.le_of_ble_eq_true rfl) (Nat.le_of_ble_eq_true rfl))
          have HBx := Lib.hid HI9.out.box
          have y0 := HBx.out.cell 0
          simp only [List.getElem?_toArray,List.getElem?_cons_zero] at y0
          clear HY9 HM2 HM3
          go_wp2_with fail
          refine hL.mono ?_
          rintro e w14 ⟨hc14,M2,r2,vl,hS14,hM14,rfl,ol,hMl⟩
          rw [st1_ln] at ol
          dsimp only at ol
          rw [st1_lines] at hS14
          obtain ⟨A1,k1,rfl⟩ := own_formB ol
          have HI14 : Hid (Ap49 w w14 D M2 (st2of x) r2 #[.string x.name,.int .i64 x.depth,.int .i64 x.low,.int .i64 x.high,.int .i64 x.len,.slice Al x.lines.length cl,.int .i64 x.pipe,.int .i64 x.arbor,.int .i64 x.purch,.int .i64 x.most,.int .i64 x.brake,.slice Ai x.items.length ci,.slice Ab x.bricks.length cb]) := HI9.out.chg hc14 hS14
          have HOl := Lib.hid (own_mono ol HI9.out.bel.size)
          have HMl := Lib.hid hMl
          rw [show (lnS (st1of x) x.name).2 = linesErr x by rw [st1_ln]]
          obtain ⟨fl,hfl⟩ : ∃ fl,linesOf x = fl := ⟨_,rfl⟩
          obtain ⟨er,her⟩ : ∃ er,linesErr x = er := ⟨_,rfl⟩
          rw [hfl] at HOl HMl
          rw [hfl,her]
          have hf10 : fl.length ≤ 10 := by rw [← hfl];exact lines_len HVx.out
          have HFl := Lib.hid hfl
          have HEr := Lib.hid her
          clear hc14 hS14 hM14 ol hMl y0 HBx HI9 hL hfl her
          go_wp2_with fail
          go_loopw [141] (fun xx wq => ∃ (j : Nat) (xs : List Value),j ≤ fl.length ∧ xx = .int .i64 j ∧ Ap49 w wq D M2 (st2of x) r2 #[.string x.name,.int .i64 x.depth,.int .i64 x.low,.int .i64 x.high,.int .i64 x.len,.slice Al x.lines.length cl,.int .i64 x.pipe,.int .i64 x.arbor,.int .i64 x.purch,.int .i64 x.most,.int .i64 x.brake,.slice Ai x.items.length ci,.slice Ab x.bricks.length cb] ∧ wq.ownsRow w.heap.size 57 2 (.slice A1 fl.length k1) fl.length xs ∧ IntCol xs 2 0 fl.length j) (fun xx _ => fl.length - (intOf xx).toNat)
          case atStart => exact ⟨0,_,Nat.zero_le _,rfl,HI14.out,HOl.out,intCol_flat FrT.cells (fun _ => rfl) (by decide) fl (fun q => ⟨_,rfl⟩)⟩
          case round =>
           clear HI14 HOl
           obtain ⟨j,xs,hj,rfl,hI,hR,hC⟩ := hrel
           by_cases hlt : j < fl.length
           ·obtain ⟨g,z,rfl,hkc,hgl2,hbl2,hcz,hfz⟩ := hC.cell hR hlt
            rw [Nat.add_zero] at hcz hfz
            have HS := Lib.hid fun u => hR.stored (j * 2) u
            have HI := Lib.hid fun u => hI.row hR (Nat.le_refl _) (by decide) (by decide) (by decide) HMl.out (HS.out u).2
            have HC := Lib.hid fun u => hC.set (u := u) (by decide)
            clear hI hR hC
            go_wp2_with fail
            go_roundw
            case rel => exact ⟨j + 1,_,by omega,by go_num,HI.out _,(HS.out _).1,HC.out _⟩
            case measure => simp [intOf];omega
           ·have hje : j = fl.length := by omega
            subst hje
            have HI15 := Lib.hid hI
            have hN := stNames w.heap.size D M2 (st2of x) r2 _ hI.store (st2_ok HVx.out)
            clear hI hR hC HMl
            go_wp2_with fail
            refine hN.mono ?_
            rintro e w16 ⟨hb16,v16,rfl,o16⟩
            obtain ⟨A2,k2,rfl⟩ := own_formB o16
            have HI16 := Lib.hid (HI15.out.below hb16)
            have hMn : ∀ g,(Value.slice A2 (st2of x).sets.length k2).ownBlock = some g → ¬ M2 g := fun g e hg => Nat.not_le_of_gt (HI15.out.store.lt g hg) (o16.lt g e).1
            have HMn := Lib.hid hMn
            have HOn := Lib.hid (own_mono o16 HI15.out.bel.size)
            clear hb16 o16 hMn hN HI15
            rw [show (st2of x).sets.length = 1 from rfl] at *
            go_wp2_with fail
            go_loopw [157] (fun xx wq => ∃ (j : Nat) (xs : List Value),j ≤ 1 ∧ xx = .int .i64 j ∧ Ap49 w wq D M2 (st2of x) r2 #[.string x.name,.int .i64 x.depth,.int .i64 x.low,.int .i64 x.high,.int .i64 x.len,.slice Al x.lines.length cl,.int .i64 x.pipe,.int .i64 x.arbor,.int .i64 x.purch,.int .i64 x.most,.int .i64 x.brake,.slice Ai x.items.length ci,.slice Ab x.bricks.length cb] ∧ wq.ownsRow w.heap.size 9 1 (.slice A2 1 k2) 1 xs) (fun xx _ => 1 - (intOf xx).toNat)
            case atStart => exact ⟨0,_,Nat.zero_le _,rfl,HI16.out,HOn.out⟩
            case round =>
             clear HI16 HOn
             obtain ⟨j,xs,hj,rfl,hI,hR⟩ := hrel
             by_cases hlt : j < 1
             ·obtain ⟨g,u0,rfl,hkc,hgl2,hbl2,hcz,hfz⟩ := row_there1 hR hlt
              have HS := Lib.hid fun u => hR.stored j u
              have HI := Lib.hid fun u => hI.row hR (Nat.le_refl _) (by decide) (by decide) (by decide) HMn.out (HS.out u).2
              clear hI hR
              go_wp2_with fail
              go_roundw
              case rel => exact ⟨j + 1,_,by omega,by go_num,HI.out _,(HS.out _).1⟩
              case measure => simp [intOf];omega
             ·have hje : j = 1 := by omega
              subst hje
              have HI17 := Lib.hid hI
              have hG := (stGet w.heap.size D M2 (st2of x) r2 x.name _ hI.store (st2_ok HVx.out)).mono fun _ _ hp => get_at hp (st2_get x)
              have y0 := HI17.out.box.cell 0
              simp only [List.getElem?_toArray,List.getElem?_cons_zero] at y0
              clear hI hR HMn
              go_wp2_with fail
              refine hG.mono ?_
              rintro e w18 ⟨hb18,⟨s,B1,l1,B2,l2,B3,l3⟩,rfl,hs,o1,o2,o3⟩
              simp only at hs o1 o2 o3
              subst s
              have ha := (Below.refl w18.heap.size w18).alloc (Nat.le_refl _) (.cells #[.string x.name,.int .i64 x.depth,.int .i64 x.low,.int .i64 x.high,.int .i64 x.len,.slice B1 x.lines.length l1,.int .i64 x.pipe,.int .i64 x.arbor,.int .i64 x.purch,.int .i64 x.most,.int .i64 x.brake,.slice B2 x.items.length l2,.slice B3 x.bricks.length l3] 26)
              have hb18a := hb18.trans (ha.mono hb18.size)
              have HI18 := Lib.hid (HI17.out.below hb18a)
              have HY18 := Lib.hid (Blk.new w18 26 #[.string x.name,.int .i64 x.depth,.int .i64 x.low,.int .i64 x.high,.int .i64 x.len,.slice B1 x.lines.length l1,.int .i64 x.pipe,.int .i64 x.arbor,.int .i64 x.purch,.int .i64 x.most,.int .i64 x.brake,.slice B2 x.items.length l2,.slice B3 x.bricks.length l3])
              have HOb : Hid (OwnC (w18.alloc (.cells #[.string x.name,.int .i64 x.depth,.int .i64 x.low,.int .i64 x.high,.int .i64 x.len,.slice B1 x.lines.length l1,.int .i64 x.pipe,.int .i64 x.arbor,.int .i64 x.purch,.int .i64 x.most,.int .i64 x.brake,.slice B2 x.items.length l2,.slice B3 x.bricks.length l3] 26)) w.heap.size ⟨x,B1,l1,B2,l2,B3,l3⟩) := (own_mono3 (c := ⟨x,B1,l1,B2,l2,B3,l3⟩) ⟨o1,o2,o3⟩ HI17.out.bel.size).chg (ChgS.of_below ha (Nat.zero_le _))
              have hL := (stLines w.heap.size D M2 (st2of x) r2 x.name _ HI18.out.store (st2_ok HVx.out) (HT.out _ HI18.out.bel) (Nat.le_of_ble_eq_true rfl) (Nat.le_of_ble_eq_true rfl))
              clear hb18 ha hb18a o1 o2 o3 hG y0 HI17
              unfold SetC.val setVal at *
              go_upto_region 49 with fail
              generalize (w18.alloc (.cells #[.string x.name,.int .i64 x.depth,.int .i64 x.low,.int .i64 x.high,.int .i64 x.len,.slice B1 x.lines.length l1,.int .i64 x.pipe,.int .i64 x.arbor,.int .i64 x.purch,.int .i64 x.most,.int .i64 x.brake,.slice B2 x.items.length l2,.slice B3 x.bricks.length l3] 26)) = w19 at *
              generalize w18.heap.size = b16 at *
              have y0 := HI18.out.box.cell 0
              simp only [List.getElem?_toArray,List.getElem?_cons_zero] at y0
              go_wp2_with fail
              refine hL.mono ?_
              rintro e w20 ⟨hc20,M3,r3,vm,hS20,-,rfl,om,-⟩
              rw [st2_ln] at om
              dsimp only at om
              rw [st2_lines] at hS20
              obtain ⟨Am,km,rfl⟩ := own_formB om
              have HI20 : Hid (Ap49 w w20 D M3 (st2of x) r3 #[.string x.name,.int .i64 x.depth,.int .i64 x.low,.int .i64 x.high,.int .i64 x.len,.slice Al x.lines.length cl,.int .i64 x.pipe,.int .i64 x.arbor,.int .i64 x.purch,.int .i64 x.most,.int .i64 x.brake,.slice Ai x.items.length ci,.slice Ab x.bricks.length cb]) := HI18.out.chg hc20 hS20
              have HY20 := Lib.hid (HY18.out.chg hc20 (by decide) (by decide))
              have HOb20 := Lib.hid (HOb.out.chg hc20)
              have HOm := Lib.hid om
              rw [show (lnS (st2of x) x.name).2 = linesErr x by rw [st2_ln]]
              have hZ := (batLinesO _ x w20 (HXs.out _ HI20.out.bel) HXn.out).mono fun _ _ hp => linesO_any hp
              rw [HEr.out] at hZ ⊢
              rw [HFl.out] at hZ HOm ⊢
              clear hc20 hS20 om y0 HI18 HY18 HOb hL
              have p0 := HI20.out.box.cell 0
              have p1 := HI20.out.box.cell 1
              have p2 := HI20.out.box.cell 2
              have p3 := HI20.out.box.cell 3
              have p4 := HI20.out.box.cell 4
              have p5 := HI20.out.box.cell 5
              have p6 := HI20.out.box.cell 6
              have p7 := HI20.out.box.cell 7
              have p8 := HI20.out.box.cell 8
              have p9 := HI20.out.box.cell 9
              have p10 := HI20.out.box.cell 10
              have p11 := HI20.out.box.cell 11
              have p12 := HI20.out.box.cell 12
              simp only [List.getElem?_toArray,List.getElem?_cons_succ,List.getElem?_cons_zero] at p0 p1 p2 p3 p4 p5 p6 p7 p8 p9 p10 p11 p12
              go_wp2_with fail
              refine hZ.mono ?_
              rintro e w21 ⟨hb21,Aw,kw,rfl,ow⟩
              have HI21 := Lib.hid (HI20.out.below hb21)
              have HY21 := Lib.hid (HY20.out.below hb21 HY20.out.lt)
              have HOb21 := Lib.hid (HOb20.out.chg (ChgS.of_below hb21 (Nat.zero_le _)))
              have HOm21 := Lib.hid (own_belowL HOm.out hb21)
              have HOw := Lib.hid ow
              clear hb21 ow hZ HI20 HY20 HOb20 HOm p0 p1 p2 p3 p4 p5 p6 p7 p8 p9 p10 p11 p12
              have hx0 := HI21.out.box
              have hy0 := HY21.out
              have x0 := hx0.cell 0
              have x1 := hx0.cell 1
              have x2 := hx0.cell 2
              have x3 := hx0.cell 3
              have x4 := hx0.cell 4
              have x5 := hx0.cell 5
              have x6 := hx0.cell 6
              have x7 := hx0.cell 7
              have x8 := hx0.cell 8
              have x9 := hx0.cell 9
              have x10 := hx0.cell 10
              have x11 := hx0.cell 11
              have x12 := hx0.cell 12
              have z0 := hy0.cell 0
              have z1 := hy0.cell 1
              have z2 := hy0.cell 2
              have z3 := hy0.cell 3
              have z4 := hy0.cell 4
              have z5 := hy0.cell 5
              have z6 := hy0.cell 6
              have z7 := hy0.cell 7
              have z8 := hy0.cell 8
              have z9 := hy0.cell 9
              have z10 := hy0.cell 10
              have z11 := hy0.cell 11
              have z12 := hy0.cell 12
              simp only [List.getElem?_toArray,List.getElem?_cons_succ,List.getElem?_cons_zero] at x0 x1 x2 x3 x4 x5 x6 x7 x8 x9 x10 x11 x12 z0 z1 z2 z3 z4 z5 z6 z7 z8 z9 z10 z11 z12
              have p0 := HeldB.cell x0
              have p1 := HeldB.cell x1
              have p2 := HeldB.cell x2
              have p3 := HeldB.cell x3
              have p4 := HeldB.cell x4
              have p5 := HeldB.cell x5
              have p6 := HeldB.cell x6
              have p7 := HeldB.cell x7
              have p8 := HeldB.cell x8
              have p9 := HeldB.cell x9
              have p10 := HeldB.cell x10
              have p11 := HeldB.cell x11
              have p12 := HeldB.cell x12
              have q0 := HeldB.cell z0
              have q1 := HeldB.cell z1
              have q2 := HeldB.cell z2
              have q3 := HeldB.cell z3
              have q4 := HeldB.cell z4
              have q5 := HeldB.cell z5
              have q6 := HeldB.cell z6
              have q7 := HeldB.cell z7
              have q8 := HeldB.cell z8
              have q9 := HeldB.cell z9
              have q10 := HeldB.cell z10
              have q11 := HeldB.cell z11
              have q12 := HeldB.cell z12
              have HHE := Lib.hid fun W (hb : Below w21.heap.size w21 W) => refSame21 (setVal x B1 l1 B2 l2 B3 l3) _ x x W ((HOb21.out.chg (ChgS.of_below hb (Nat.zero_le _))).set) (HXs.out W (HI21.out.bel.trans (hb.mono HI21.out.bel.size)))
              have HEq := Lib.hid fun W (hb : Below w21.heap.size w21 W) => equalFrac (.slice Am fl.length km) (.slice Aw fl.length kw) fl fl W.heap.size W (Flat.of_own (own_belowL HOm21.out hb)) (Flat.of_own (own_belowL HOw.out hb))
              have HNa := Lib.hid fun W (hb : Below w21.heap.size w21 W) => stNames w.heap.size D M3 (st2of x) r3 W (HI21.out.store.below hb) (st2_ok HVx.out)
              rw [decide_eq_true rfl] at HHE HEq
              unfold setVal at HHE
              clear hx0 hy0 x0 x1 x2 x3 x4 x5 x6 x7 x8 x9 x10 x11 x12 z0 z1 z2 z3 z4 z5 z6 z7 z8 z9 z10 z11 z12
              go_wp2_with fail
              refine wp_region_grow 30 (fun jx => if jx = 5 then some gTr else if jx = 20 then some gTr else if jx = 24 then some (gRow w.heap.size 9 1 1 [.string x.name]) else if jx = 27 then some (gLit x.name) else if jx = 28 then some gTr else none) (by kernel_rfl) (by kernel_rfl) ?_
              simp only [List.take_succ_cons,List.take_zero,List.drop_succ_cons,List.drop_zero]
              first | refine wpG_quiet1W (by first | rfl | go_simp) rfl rfl ?_ | refine wpG_pickW rfl (by first | rfl | go_simp) rfl ?_
              go_big_quiet_step (fail)
              refine wpQuiet_nil ?_
              first | refine wpG_quiet1W (by first | rfl | go_simp) rfl rfl ?_ | refine wpG_pickW rfl (by first | rfl | go_simp) rfl ?_
              go_big_quiet_step (fail)
              refine wpQuiet_nil ?_
              first | refine wpG_quiet1W (by first | rfl | go_simp) rfl rfl ?_ | refine wpG_pickW rfl (by first | rfl | go_simp) rfl ?_
              go_big_quiet_step (fail)
              refine wpQuiet_nil ?_
              first | refine wpG_quiet1W (by first | rfl | go_simp) rfl rfl ?_ | refine wpG_pickW rfl (by first | rfl | go_simp) rfl ?_
              go_big_quiet_step (fail)
              refine wpQuiet_nil ?_
              first | refine wpG_quiet1W (by first | rfl | go_simp) rfl rfl ?_ | refine wpG_pickW rfl (by first | rfl | go_simp) rfl ?_
              go_big_quiet_step (fail)
              refine wpQuiet_nil ?_
              refine wpG_callW (by first | rfl | go_simp) rfl (fun w1 hb1 _ => ⟨29,#[.agg #[.string x.name,.int .i64 x.depth,.int .i64 x.low,.int .i64 x.high,.int .i64 x.len,.slice B1 x.lines.length l1,.int .i64 x.pipe,.int .i64 x.arbor,.int .i64 x.purch,.int .i64 x.most,.int .i64 x.brake,.slice B2 x.items.length l2,.slice B3 x.bricks.length l3],.agg #[.string x.name,.int .i64 x.depth,.int .i64 x.low,.int .i64 x.high,.int .i64 x.len,.slice Al x.lines.length cl,.int .i64 x.pipe,.int .i64 x.arbor,.int .i64 x.purch,.int .i64 x.most,.int .i64 x.brake,.slice Ai x.items.length ci,.slice Ab x.bricks.length cb]],by go_simp,(HHE.out w1 hb1).mono fun _ _ hp => ⟨_,hp.1,hp.2,rfl,trivial⟩⟩) ?_
              rintro _ rfl
              simp only [Act.put,List.setIfInBounds_toArray,List.set_cons_zero,List.set_cons_succ]
              first | refine wpG_quiet1W (by first | rfl | go_simp) rfl rfl ?_ | refine wpG_pickW rfl (by first | rfl | go_simp) rfl ?_
              go_big_quiet_step (fail)
              refine wpQuiet_nil ?_
              first | refine wpG_quiet1W (by first | rfl | go_simp) rfl rfl ?_ | refine wpG_pickW rfl (by first | rfl | go_simp) rfl ?_
              go_big_quiet_step (fail)
              refine wpQuiet_nil ?_
              first | refine wpG_quiet1W (by first | rfl | go_simp) rfl rfl ?_ | refine wpG_pickW rfl (by first | rfl | go_simp) rfl ?_
              go_big_quiet_step (fail)
              refine wpQuiet_nil ?_
              first | refine wpG_quiet1W (by first | rfl | go_simp) rfl rfl ?_ | refine wpG_pickW rfl (by first | rfl | go_simp) rfl ?_
              go_big_quiet_step (fail)
              refine wpQuiet_nil ?_
              first | refine wpG_quiet1W (by first | rfl | go_simp) rfl rfl ?_ | refine wpG_pickW rfl (by first | rfl | go_simp) rfl ?_
              go_big_quiet_step (fail)
              refine wpQuiet_nil ?_
              first | refine wpG_quiet1W (by first | rfl | go_simp) rfl rfl ?_ | refine wpG_pickW rfl (by first | rfl | go_simp) rfl ?_
              go_big_quiet_step (fail)
              refine wpQuiet_nil ?_
              first | refine wpG_quiet1W (by first | rfl | go_simp) rfl rfl ?_ | refine wpG_pickW rfl (by first | rfl | go_simp) rfl ?_
              go_big_quiet_step (fail)
              refine wpQuiet_nil ?_
              first | refine wpG_quiet1W (by first | rfl | go_simp) rfl rfl ?_ | refine wpG_pickW rfl (by first | rfl | go_simp) rfl ?_
              go_big_quiet_step (fail)
              refine wpQuiet_nil ?_
              first | refine wpG_quiet1W (by first | rfl | go_simp) rfl rfl ?_ | refine wpG_pickW rfl (by first | rfl | go_simp) rfl ?_
              go_big_quiet_step (fail)
              refine wpQuiet_nil ?_
              first | refine wpG_quiet1W (by first | rfl | go_simp) rfl rfl ?_ | refine wpG_pickW rfl (by first | rfl | go_simp) rfl ?_
              go_big_quiet_step (fail)
              refine wpQuiet_nil ?_
              first | refine wpG_quiet1W (by first | rfl | go_simp) rfl rfl ?_ | refine wpG_pickW rfl (by first | rfl | go_simp) rfl ?_
              go_big_quiet_step (fail)
              refine wpQuiet_nil ?_
              first | refine wpG_quiet1W (by first | rfl | go_simp) rfl rfl ?_ | refine wpG_pickW rfl (by first | rfl | go_simp) rfl ?_
              go_big_quiet_step (fail)
              refine wpQuiet_nil ?_
              first | refine wpG_quiet1W (by first | rfl | go_simp) rfl rfl ?_ | refine wpG_pickW rfl (by first | rfl | go_simp) rfl ?_
              go_big_quiet_step (fail)
              refine wpQuiet_nil ?_
              first | refine wpG_quiet1W (by first | rfl | go_simp) rfl rfl ?_ | refine wpG_pickW rfl (by first | rfl | go_simp) rfl ?_
              go_big_quiet_step (fail)
              refine wpQuiet_nil ?_
              refine wpG_callW (by first | rfl | go_simp) rfl (fun w1 hb1 _ => ⟨33,#[.slice Am fl.length km,.slice Aw fl.length kw],by go_simp,(HEq.out w1 hb1).mono fun _ _ hp => ⟨_,hp.1,(let ⟨n,e⟩ := hp.2;e ▸ below_drewN (Below.refl _ _) n),rfl,trivial⟩⟩) ?_
              rintro _ rfl
              simp only [Act.put,List.setIfInBounds_toArray,List.set_cons_zero,List.set_cons_succ]
              first | refine wpG_quiet1W (by first | rfl | go_simp) rfl rfl ?_ | refine wpG_pickW rfl (by first | rfl | go_simp) rfl ?_
              go_big_quiet_step (fail)
              refine wpQuiet_nil ?_
              first | refine wpG_quiet1W (by first | rfl | go_simp) rfl rfl ?_ | refine wpG_pickW rfl (by first | rfl | go_simp) rfl ?_
              go_big_quiet_step (fail)
              refine wpQuiet_nil ?_
              first | refine wpG_quiet1W (by first | rfl | go_simp) rfl rfl ?_ | refine wpG_pickW rfl (by first | rfl | go_simp) rfl ?_
              go_big_quiet_step (fail)
              refine wpQuiet_nil ?_
              refine wpG_callW (by first | rfl | go_simp) rfl (fun w1 hb1 _ => ⟨31,#[.pointer (some ⟨D,0,none⟩)],by go_simp,(HNa.out w1 hb1).mono fun _ _ hp => (let ⟨h1,v,h2,h3⟩ := hp;⟨v,h2,h1,own_formB h3,own_mono h3 (Nat.le_trans HI21.out.bel.size hb1.size)⟩)⟩) ?_
              rintro _ ⟨An,kn,rfl⟩
              simp only [Act.put,List.setIfInBounds_toArray,List.set_cons_zero,List.set_cons_succ]
              first | refine wpG_quiet1W (by first | rfl | go_simp) rfl rfl ?_ | refine wpG_pickW rfl (by first | rfl | go_simp) rfl ?_
              go_big_quiet_step (fail)
              refine wpQuiet_nil ?_
              first | refine wpG_quiet1W (by first | rfl | go_simp) rfl rfl ?_ | refine wpG_pickW rfl (by first | rfl | go_simp) rfl ?_
              go_big_quiet_step (fail)
              refine wpQuiet_nil ?_
              refine wpG_newW (by first | rfl | go_simp) rfl (fun w1 hb1 _ => gLit_new (by go_simp)) ?_
              rintro _ ⟨gb,rfl⟩
              simp only [Act.put,List.setIfInBounds_toArray,List.set_cons_zero,List.set_cons_succ]
              refine wpG_callW (by first | rfl | go_simp) rfl ?_ ?_
              ·intro w1 hb1 hk
               have h1 : w1.ownsRow w.heap.size 9 1 (.slice An 1 kn) 1 [.string x.name] := hk 207 (of_decide_eq_true (by kernel_rfl))
               have h2 : Flat w1 w1.heap.size (.slice (some ⟨gb,0,none⟩) 1 1) 1 [.string x.name] := hk 210 (of_decide_eq_true (by kernel_rfl))
               have hC := equalStr (.slice An 1 kn) (.slice (some ⟨gb,0,none⟩) 1 1) [x.name] [x.name] w1.heap.size w1 (by simpa [RowAt] using Flat.of_own h1) (by simpa [RowAt] using h2)
               rw [decide_eq_true rfl] at hC
               exact ⟨34,#[.slice An 1 kn,.slice (some ⟨gb,0,none⟩) 1 1],by go_simp,hC.mono fun _ _ hp => ⟨_,hp.1,(let ⟨n,e⟩ := hp.2;e ▸ below_drewN (Below.refl _ _) n),rfl,trivial⟩⟩
              rintro _ rfl
              simp only [Act.put,List.setIfInBounds_toArray,List.set_cons_zero,List.set_cons_succ]
              first | refine wpG_quiet1W (by first | rfl | go_simp) rfl rfl ?_ | refine wpG_pickW rfl (by first | rfl | go_simp) rfl ?_
              go_big_quiet_step (fail)
              refine wpQuiet_nil ?_
              refine wpG_nil ?_
              intro w22 hb22 _
              have HB22 := Lib.hid (HI21.out.bel.trans (hb22.mono HI21.out.bel.size))
              clear hb22 HHE HEq HNa HI21 HY21 HOb21 HOm21 HOw p0 p1 p2 p3 p4 p5 p6 p7 p8 p9 p10 p11 p12 q0 q1 q2 q3 q4 q5 q6 q7 q8 q9 q10 q11 q12
              go_wp2_with fail
              go_ret
              exact ⟨rfl,HB22.out⟩
end Go.Proofs.YtbhmkcjddpniiaaGreatDoor
