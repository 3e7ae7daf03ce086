/- Parts of the proof, laid into one text: MomC. -/
import Derived.BigQuiet
import Derived.Deep.AppendLies
import Derived.Deep.Draws
import Derived.Deep.LoopGhost
import Derived.Deep.QuietTactic
import Derived.Deep.RegionHeld3
import Derived.IntWalk
import Derived.Laws.Bits64b
import Derived.Lib.Hide
import Derived.LoopIn
import Derived.LoopNIn
import Derived.Maps.AppendAt
import Derived.Outline
import Derived.OwnWalkIn
import Derived.RangeFuncBox
import Derived.RangeFuncLeaves
import Derived.Shelf.Abstract
import Derived.StillTail
import Derived.StillTailTactics
import Derived.TacticsInMore
import Derived.Test.YtknkhnahflmjiaaGreatDoorB1
import Derived.Test.YtknkhnahflmjiaaGreatDoorE1
import Derived.Test.YtknkhnahflmjiaaGreatDoorE2
import Derived.Test.YtknkhnahflmjiaaGreatDoorE3
import Derived.Test.YtknkhnahflmjiaaGreatDoorE4
import Derived.Test.YtknkhnahflmjiaaGreatDoorProg
import Derived.WalkKit
import Derived.WalkLawsBesides
import Derived.WalkSpells

namespace Go.Proofs.YtknkhnahflmjiaaGreatDoor
open Go.RowKit Go.Shelf
set_option maxRecDepth 100000 in
set_option maxHeartbeats 8000000 in
theorem bmMoments (v : Value) (b : BeamT) (w : World) (hv : BeamAt w w.heap.size v b) (hb : BeamOk b) : Calls Tryz.prog 190 #[v] w (MomPost b w) := by
 obtain ⟨As,cs,Al,cl,rfl,hS,hL⟩ := hv
 obtain ⟨hm1,hm2⟩ := hb.sup1
 obtain ⟨_,_,e,_,_,hSc⟩ := hS.open_
 injection e with e1 _ e2
 subst e1 e2
 obtain ⟨bs,os,rfl,hbs,hSx⟩ := hSc 0 hm1
 have HV : Hid (BeamAt w w.heap.size (.agg #[.string b.name,.int .i64 b.len,.slice (some ⟨bs,os,none⟩) b.sup.length cs,.slice Al b.loads.length cl,.int .i64 b.even]) b) := ⟨_,_,Al,cl,rfl,hS,hL⟩
 have HSx : Hid (∀ j,j < b.sup.length → w.cell? ⟨bs,os + j,none⟩ = some (.int .i64 (supAt b j))) := fun j hj => by
  have h := hSx j hj
  unfold supAt
  rw [List.getD_eq_getElem?_getD,List.getElem?_eq_getElem hj]
  exact h
 have Hb := Lib.hid hb
 have HbT := Lib.hid (turned_ok hb)
 have HD := Lib.hid (Blk.new w 117 #[.string b.name,.int .i64 b.len,.slice (some ⟨bs,os,none⟩) b.sup.length cs,.slice Al b.loads.length cl,.int .i64 b.even])
 have HB := Lib.hid ((Below.refl _ w).alloc (Nat.le_refl _) (.cells #[.string b.name,.int .i64 b.len,.slice (some ⟨bs,os,none⟩) b.sup.length cs,.slice Al b.loads.length cl,.int .i64 b.even] 117))
 clear hS hL hb hSc hSx
 go_enter Tryz.func190,Tryz.ntmps190
 go_wp2_with fail
 generalize w.alloc (.cells #[.string b.name,.int .i64 b.len,.slice (some ⟨bs,os,none⟩) b.sup.length cs,.slice Al b.loads.length cl,.int .i64 b.even] 117) = W1 at *
 have y0 := HD.out.cell 0
 have y1 := HD.out.cell 1
 have y2 := HD.out.cell 2
 have y3 := HD.out.cell 3
 have y4 := HD.out.cell 4
 simp only [List.getElem?_toArray,List.getElem?_cons_succ,List.getElem?_cons_zero] at y0 y1 y2 y3 y4
 go_wp2_with fail
 have u0 := HeldB.cell y0
 have u1 := HeldB.cell y1
 have u2 := HeldB.cell y2
 have u3 := HeldB.cell y3
 have u4 := HeldB.cell y4
 clear y0 y1 y2 y3 y4
 refine wp_region_apart 7 (fun jx => if jx = 1 then some (gE (hangR b)) else if jx = 3 then some (gB (turnedT b)) else if jx = 4 then some (gE (hangR (turnedT b))) else if jx = 5 then some (gA W1.heap.size) else if jx = 6 then some (gA W1.heap.size) else none) [5,6] (by kernel_rfl) (by kernel_rfl) (by kernel_rfl) (two_none rfl rfl) ?_
 simp only [List.take_succ_cons,List.take_zero,List.drop_succ_cons,List.drop_zero]
 refine wpG_quiet 1 (by kernel_rfl) (by rfl) (by decide) ?_
 simp only [List.take_succ_cons,List.take_zero,List.drop_succ_cons,List.drop_zero]
 repeat (go_big_quiet_step (fail))
 refine wpQuiet_nil ?_
 refine wpG_call rfl rfl ?_ ?_
 ·intro w1 hb1 hk
  have hb := (HB.out).trans (hb1.mono (HB.out).size)
  have hC := MakesE.g (bmHang _ b w1 ((HV.out.below hb (Nat.le_refl _)).mono hb.size) Hb.out)
  exact ⟨234,#[.agg #[.string b.name,.int .i64 b.len,.slice (some ⟨bs,os,none⟩) b.sup.length cs,.slice Al b.loads.length cl,.int .i64 b.even]],by go_simp,hC⟩
 rintro _ ⟨r20b1,r20A1,r20l1,r20c1,r20b2,r20A2,r20l2,r20c2,rfl⟩
 simp only [Act.put,List.setIfInBounds_toArray,List.set_cons_zero,List.set_cons_succ]
 refine wpG_quiet 1 (by kernel_rfl) (by rfl) (by decide) ?_
 simp only [List.take_succ_cons,List.take_zero,List.drop_succ_cons,List.drop_zero]
 repeat (go_big_quiet_step (fail))
 refine wpQuiet_nil ?_
 refine wpG_call rfl rfl ?_ ?_
 ·intro w1 hb1 hk
  have hb := (HB.out).trans (hb1.mono (HB.out).size)
  have hC := TurnedPost.g (bmTurned _ b w1 ((HV.out.below hb (Nat.le_refl _)).mono hb.size) Hb.out)
  exact ⟨198,#[.agg #[.string b.name,.int .i64 b.len,.slice (some ⟨bs,os,none⟩) b.sup.length cs,.slice Al b.loads.length cl,.int .i64 b.even]],by go_simp,hC⟩
 rintro _ ⟨tAs,tcs,tAl,tcl,rfl⟩
 simp only [Act.put,List.setIfInBounds_toArray,List.set_cons_zero,List.set_cons_succ]
 refine wpG_call rfl rfl ?_ ?_
 ·intro w1 hb1 hk
  have hb := (HB.out).trans (hb1.mono (HB.out).size)
  have h22 : BeamAt w1 w1.heap.size (.agg #[.string (turnedT b).name,.int .i64 (turnedT b).len,.slice tAs (turnedT b).sup.length tcs,.slice tAl (turnedT b).loads.length tcl,.int .i64 (turnedT b).even]) (turnedT b) := hk 22 (by decide)
  have hC := MakesE.g (bmHang _ (turnedT b) w1 h22 HbT.out)
  exact ⟨234,#[.agg #[.string (turnedT b).name,.int .i64 (turnedT b).len,.slice tAs (turnedT b).sup.length tcs,.slice tAl (turnedT b).loads.length tcl,.int .i64 (turnedT b).even]],by go_simp,hC⟩
 rintro _ ⟨r23b1,r23A1,r23l1,r23c1,r23b2,r23A2,r23l2,r23c2,rfl⟩
 simp only [Act.put,List.setIfInBounds_toArray,List.set_cons_zero,List.set_cons_succ]
 refine wpG_new rfl rfl (fun w1 hb1 _ => gA_new hb1.size (by go_simp)) ?_
 rintro _ ⟨g5,rfl⟩
 simp only [Act.put,List.setIfInBounds_toArray,List.set_cons_zero,List.set_cons_succ]
 refine wpG_new rfl rfl (fun w1 hb1 _ => gA_new hb1.size (by go_simp)) ?_
 rintro _ ⟨g6,rfl⟩
 simp only [Act.put,List.setIfInBounds_toArray,List.set_cons_zero,List.set_cons_succ]
 refine wpG_nil ?_
 intro w8 hb8 hF hA
 have h20 : ExactAt w8 (.agg #[.bool r20b1,.slice r20A1 r20l1 r20c1,.bool r20b2,.slice r20A2 r20l2 r20c2]) (hangR b) := hF 20
 have h23 : ExactAt w8 (.agg #[.bool r23b1,.slice r23A1 r23l1 r23c1,.bool r23b2,.slice r23A2 r23l2 r23c2]) (hangR (turnedT b)) := hF 23
 have h5 : AtBox W1.heap.size (.pointer (some ⟨g5,0,none⟩)) w8 := hF 5
 have h6 : AtBox W1.heap.size (.pointer (some ⟨g6,0,none⟩)) w8 := hF 6
 have h56 : g6 ≠ g5 := fun e => (hA 5 (by simp) g5 rfl).2 6 (by simp) (by decide) (by rw [e];rfl)
 have HFx := Lib.hid h20
 have HFy := Lib.hid h23
 have D8 := HD.out.below hb8 HD.out.lt
 have B8 := HB.out.trans (hb8.mono HB.out.size)
 have b5 := h5
 have b6 := h6
 obtain ⟨_,e5,-,b5⟩ := b5
 obtain ⟨_,e6,-,b6⟩ := b6
 injection e5 with e5
 injection e5 with e5
 injection e5 with e5 _ _
 injection e6 with e6
 injection e6 with e6
 injection e6 with e6 _ _
 subst e5 e6
 have c50 := b5.cell 0
 have f50 := b5.frozen 0
 have c51 := b5.cell 1
 have f51 := b5.frozen 1
 have c52 := b5.cell 2
 have f52 := b5.frozen 2
 have c53 := b5.cell 3
 have f53 := b5.frozen 3
 have c60 := b6.cell 0
 have f60 := b6.frozen 0
 have c61 := b6.cell 1
 have f61 := b6.frozen 1
 have c62 := b6.cell 2
 have f62 := b6.frozen 2
 have c63 := b6.cell 3
 have f63 := b6.frozen 3
 simp only [List.getElem?_toArray,List.getElem?_cons_succ,List.getElem?_cons_zero] at c50 c51 c52 c53 c60 c61 c62 c63
 have H5 := Lib.hid h5
 have H6 := Lib.hid h6
 have H56 := Lib.hid h56
 have HD8 := Lib.hid D8
 have HB8 := Lib.hid B8
 have HWs := Lib.hid HD.out.lt
 have h56' : ¬ (g6 = g5) := h56
 clear hF hA u0 u1 u2 u3 u4 h20 h23 h5 h6 h56 hb8 D8 B8 b5 b6 HD HB
 by_cases hm : b.sup.length = 1
 ·have hd : ((b.sup.length : Int) == 1) = true := beq_iff_eq.2 (by omega)
  have HT : Hid (tiltOk b = (signZ (hangR b - hangR (turnedT b)).num == 0)) := by unfold Hid tiltOk;rw [if_pos hm,sign_zero]
  have HL : Hid (momL b = [hangR b]) := by unfold Hid momL;rw [hm];rfl
  clear hm
  go_wp2_with fail
  have hM := MomSt.start HD8.out HB8.out HWs.out H5.out H6.out H56.out HFx.out HFy.out
  generalize ((((((((w8.setCell ⟨g5,0,none⟩ (.bool r20b1)).setCell ⟨g5,1,none⟩ (.slice r20A1 r20l1 r20c1)).setCell ⟨g5,2,none⟩ (.bool r20b2)).setCell ⟨g5,3,none⟩ (.slice r20A2 r20l2 r20c2)).setCell ⟨g6,0,none⟩ (.bool r23b1)).setCell ⟨g6,1,none⟩ (.slice r23A1 r23l1 r23c1)).setCell ⟨g6,2,none⟩ (.bool r23b2)).setCell ⟨g6,3,none⟩ (.slice r23A2 r23l2 r23c2)) = W9 at *
  obtain ⟨sb1,sA1,sl1,sc1,sb2,sA2,sl2,sc2,hB,hE⟩ := hM.fst
  have y0 := hB.cell 0
  have y1 := hB.cell 1
  have y2 := hB.cell 2
  have y3 := hB.cell 3
  simp only [List.getElem?_toArray,List.getElem?_cons_succ,List.getElem?_cons_zero] at y0 y1 y2 y3
  have u0 := HeldB.cell y0
  have u1 := HeldB.cell y1
  have u2 := HeldB.cell y2
  have u3 := HeldB.cell y3
  clear y0 y1 y2 y3
  obtain ⟨tb1,tA1,tl1,tc1,tb2,tA2,tl2,tc2,hB2,hE2⟩ := hM.lst
  have xy0 := hB2.cell 0
  have xy1 := hB2.cell 1
  have xy2 := hB2.cell 2
  have xy3 := hB2.cell 3
  simp only [List.getElem?_toArray,List.getElem?_cons_succ,List.getElem?_cons_zero] at xy0 xy1 xy2 xy3
  have xu0 := HeldB.cell xy0
  have xu1 := HeldB.cell xy1
  have xu2 := HeldB.cell xy2
  have xu3 := HeldB.cell xy3
  clear xy0 xy1 xy2 xy3
  have HB9 := Lib.hid hM.bel
  have HE := Lib.hid hE
  have HE2 := Lib.hid hE2
  clear hM hE hE2 hB hB2 c50 c51 c52 c53 c60 c61 c62 c63 f50 f51 f52 f53 f60 f61 f62 f63 H5 H6 HFx HFy HD8 HB8
  refine wp_region_grow 9 (fun jx => if jx = 1 then some (gX (hangR b)) else if jx = 4 then some (gE (hangR b - hangR (turnedT b))) else if jx = 6 then some (gV (.int .i64 (signZ (hangR b - hangR (turnedT b)).num))) else none) (by kernel_rfl) (by kernel_rfl) ?_
  simp only [List.take_succ_cons,List.take_zero,List.drop_succ_cons,List.drop_zero]
  refine wpG_quiet 1 (by kernel_rfl) (by rfl) (by decide) ?_
  simp only [List.take_succ_cons,List.take_zero,List.drop_succ_cons,List.drop_zero]
  repeat (go_big_quiet_step (fail))
  refine wpQuiet_nil ?_
  refine wpG_new rfl rfl (fun w1 hb1 _ => gX_new (HE.out.grow hb1) (by go_simp)) ?_
  rintro _ ⟨g27,rfl⟩
  simp only [Act.put,List.setIfInBounds_toArray,List.set_cons_zero,List.set_cons_succ]
  refine wpG_quiet 2 (by kernel_rfl) (by rfl) (by decide) ?_
  simp only [List.take_succ_cons,List.take_zero,List.drop_succ_cons,List.drop_zero]
  repeat (go_big_quiet_step (fail))
  refine wpQuiet_nil ?_
  refine wpG_call rfl rfl ?_ ?_
  ·intro w1 hb1 hk
   have hb := (HB9.out).trans (hb1.mono (HB9.out).size)
   have hC := MakesE.g (bmELess _ _ _ _ 247 247 w1 (HE.out.grow hb1) (HE2.out.grow hb1) (hangR_fits Hb.out) (hangR_fits HbT.out) (by decide))
   exact ⟨195,#[.agg #[.bool sb1,.slice sA1 sl1 sc1,.bool sb2,.slice sA2 sl2 sc2],.agg #[.bool tb1,.slice tA1 tl1 tc1,.bool tb2,.slice tA2 tl2 tc2]],by go_simp,hC⟩
  rintro _ ⟨r30b1,r30A1,r30l1,r30c1,r30b2,r30A2,r30l2,r30c2,rfl⟩
  simp only [Act.put,List.setIfInBounds_toArray,List.set_cons_zero,List.set_cons_succ]
  refine wpG_pure (v := .agg #[.bool r30b1,.slice r30A1 r30l1 r30c1]) rfl rfl (fun w1 => by kernel_rfl) ?_
  simp only [Act.put,List.setIfInBounds_toArray,List.set_cons_zero,List.set_cons_succ]
  refine wpG_call rfl rfl ?_ ?_
  ·intro w1 hb1 hk
   have hb := (HB9.out).trans (hb1.mono (HB9.out).size)
   have h30 : ExactAt w1 (.agg #[.bool r30b1,.slice r30A1 r30l1 r30c1,.bool r30b2,.slice r30A2 r30l2 r30c2]) (hangR b - hangR (turnedT b)) := hk 31 (by decide) 30 (by decide)
   obtain ⟨_,_,_,_,_,_,_,_,e30,h30n,-⟩ := h30.form
   have hC := signG e30 h30n
   exact ⟨235,#[.agg #[.bool r30b1,.slice r30A1 r30l1 r30c1]],by go_simp,hC⟩
  rintro _ rfl
  simp only [Act.put,List.setIfInBounds_toArray,List.set_cons_zero,List.set_cons_succ]
  refine wpG_quiet 2 (by kernel_rfl) (by rfl) (by decide) ?_
  simp only [List.take_succ_cons,List.take_zero,List.drop_succ_cons,List.drop_zero]
  repeat (go_big_quiet_step (fail))
  refine wpQuiet_nil ?_
  refine wpG_nil ?_
  intro w8 hb8 hF
  have h27 : ExsAt w8 (.slice (some ⟨g27,0,none⟩) 1 1) [hangR b] := hF 27
  have HB10 := Lib.hid (HB9.out.trans (hb8.mono HB9.out.size))
  have H27 := Lib.hid h27
  clear hF h27 hb8 u0 u1 u2 u3 xu0 xu1 xu2 xu3 HE HE2 HB9
  go_wp2_with fail
  refine bodyPost_ret (results_tmp2 rfl _ _ _) (by rfl) ?_
  exact ⟨HB10.out,_,by rw [HT.out];rfl,by rw [HL.out];exact H27.out⟩
 ·have hd : ((b.sup.length : Int) == 1) = false := beq_eq_false_iff_ne.2 (by omega)
  have HT : Hid (tiltOk b = true) := by unfold Hid tiltOk;rw [if_neg hm]
  have hm2' : 2 ≤ b.sup.length := by omega
  obtain ⟨iE,hiE,hzE0,hzE1,hzE2⟩ := info_parts info_exact
  have hbytes : iE.bytes * b.sup.length ≤ 281474976710656 := by rw [hzE2];omega
  clear hm
  have hM := MomSt.start HD8.out HB8.out HWs.out H5.out H6.out H56.out HFx.out HFy.out
  have HM := Lib.hid hM
  clear hM
  go_wp2_with (at_make;refine wpList_make_full _ rfl _ _ 172 rfl _ 223 iE (.agg #[.bool false,.slice none 0 0,.bool false,.slice none 0 0]) 4 Tryz.underlying172 hiE hzE0 hzE1 .i64 .i64 _ _ b.sup.length rfl rfl rfl rfl hbytes (by unfold maxLen;omega) (Nat.le_refl _) ?_;intro w10 hown10 hgrow10)
  have HRow := Lib.hid (ExRow.made hown10)
  have HM10 : Hid (MomSt w w10 b #[.string b.name,.int .i64 b.len,.slice (some ⟨bs,os,none⟩) b.sup.length cs,.slice Al b.loads.length cl,.int .i64 b.even] g5 g6) := HM.out.grow ((Below.refl _ _).grown hgrow10 (Nat.le_refl _) (fun k hk => by cases hk))
  have hgo : Hid (g5 < w8.heap.size ∧ g6 < w8.heap.size ∧ w.heap.size < w8.heap.size) := by
   obtain ⟨_,e5,_,b5⟩ := H5.out
   obtain ⟨_,e6,_,b6⟩ := H6.out
   injection e5 with e5
   injection e5 with e5
   injection e5 with e5 _ _
   injection e6 with e6
   injection e6 with e6
   injection e6 with e6 _ _
   subst e5 e6
   exact ⟨b5.lt,b6.lt,HD8.out.lt⟩
  have hsz9 : (((((((((w8.setCell ⟨g5,0,none⟩ (.bool r20b1)).setCell ⟨g5,1,none⟩ (.slice r20A1 r20l1 r20c1)).setCell ⟨g5,2,none⟩ (.bool r20b2)).setCell ⟨g5,3,none⟩ (.slice r20A2 r20l2 r20c2)).setCell ⟨g6,0,none⟩ (.bool r23b1)).setCell ⟨g6,1,none⟩ (.slice r23A1 r23l1 r23c1)).setCell ⟨g6,2,none⟩ (.bool r23b2)).setCell ⟨g6,3,none⟩ (.slice r23A2 r23l2 r23c2))).heap.size = w8.heap.size := by simp [World.setCell]
  rw [hsz9] at HRow
  obtain ⟨go,hgo2⟩ : ∃ go,w8.heap.size = go := ⟨_,rfl⟩
  rw [hgo2] at HRow hgo
  simp only [hgo2]
  have HG1 : Hid (g5 < go) := hgo.out.1
  have HG2 : Hid (g6 < go) := hgo.out.2.1
  have HG3 : Hid (w.heap.size < go) := hgo.out.2.2
  clear hgo2 hsz9 hown10 hgrow10 hbytes hiE hzE0 hzE1 hzE2 hgo HM H5 H6 HFx HFy HD8 HB8 c50 c51 c52 c53 c60 c61 c62 c63 f50 f51 f52 f53 f60 f61 f62 f63
  obtain ⟨sb1,sA1,sl1,sc1,sb2,sA2,sl2,sc2,hB,hE⟩ := HM10.out.fst
  obtain ⟨tb1,tA1,tl1,tc1,tb2,tA2,tl2,tc2,hB2,hE2⟩ := HM10.out.lst
  have p0 := hB.cell 0
  have p1 := hB.cell 1
  have p2 := hB.cell 2
  have p3 := hB.cell 3
  have x0 := hB2.cell 0
  have x1 := hB2.cell 1
  have x2 := hB2.cell 2
  have x3 := hB2.cell 3
  obtain ⟨_,_,_,_,_,_,_,_,o0,o1,o2,o3,-⟩ := HRow.out.read (i := 0) (by omega)
  obtain ⟨_,_,_,_,_,_,_,_,l0,l1,l2,l3,-⟩ := HRow.out.read (i := b.sup.length - 1) (by omega)
  simp only [List.getElem?_toArray,List.getElem?_cons_succ,List.getElem?_cons_zero,Nat.zero_mul,Nat.zero_add] at p0 p1 p2 p3 x0 x1 x2 x3 o0 o1 o2 o3
  have fz := HRow.out.frozen
  have fo0 := fz 0
  have fo1 := fz 1
  have fo2 := fz 2
  have fo3 := fz 3
  have fl0 := fz ((b.sup.length - 1) * 4)
  have fl1 := fz ((b.sup.length - 1) * 4 + 1)
  have fl2 := fz ((b.sup.length - 1) * 4 + 2)
  have fl3 := fz ((b.sup.length - 1) * 4 + 3)
  have HE := Lib.hid hE
  have HE2 := Lib.hid hE2
  have j0 : (0 : Int) ≤ (b.sup.length : Int) - 1 := by omega
  have j1 : (b.sup.length : Int) - 1 < (b.sup.length : Int) := by omega
  have j2 : ((b.sup.length : Int) - 1).toNat = b.sup.length - 1 := by omega
  have j3 : (0 : Int) < (b.sup.length : Int) := by omega
  have j4 : 0 < b.sup.length := by omega
  have j5 : IntKind.i64.wrap ((b.sup.length : Int) - 1) = (b.sup.length : Int) - 1 := IntWalk.i64_in _ (by omega)
  have j6 : (1 : Int) ≤ (b.sup.length : Int) := by omega
  have n5 : g5 ≠ go := Nat.ne_of_lt HG1.out
  have n6 : g6 ≠ go := Nat.ne_of_lt HG2.out
  have n5' : go ≠ g5 := Ne.symm n5
  have n6' : go ≠ g6 := Ne.symm n6
  clear hB hB2 hE hE2 fz
  go_region_held3 (fun w' => w'.cell? ⟨g5,0,none⟩ = some (.bool sb1) ∧ w'.cell? ⟨g5,1,none⟩ = some (.slice sA1 sl1 sc1) ∧ w'.cell? ⟨g5,2,none⟩ = some (.bool sb2) ∧ w'.cell? ⟨g5,3,none⟩ = some (.slice sA2 sl2 sc2) ∧ w'.cell? ⟨g6,0,none⟩ = some (.bool tb1) ∧ w'.cell? ⟨g6,1,none⟩ = some (.slice tA1 tl1 tc1) ∧ w'.cell? ⟨g6,2,none⟩ = some (.bool tb2) ∧ w'.cell? ⟨g6,3,none⟩ = some (.slice tA2 tl2 tc2)) (go_keep) (fail)
  have R1 := HRow.out.write (i := 0) (by omega) HE.out
  obtain ⟨cs6,hk6⟩ := HRow.out.blk
  have E26 := HE2.out.set4 hk6 (0 * 4) (.bool sb1) (.slice sA1 sl1 sc1) (.bool sb2) (.slice sA2 sl2 sc2)
  have R2 := R1.write (i := b.sup.length - 1) (by omega) E26
  have M1 := HM10.out.set4 hk6 HG3.out n5' n6' (0 * 4) (.bool sb1) (.slice sA1 sl1 sc1) (.bool sb2) (.slice sA2 sl2 sc2)
  obtain ⟨cs7,hk7⟩ := R1.blk
  have M2 := M1.set4 hk7 HG3.out n5' n6' ((b.sup.length - 1) * 4) (.bool tb1) (.slice tA1 tl1 tc1) (.bool tb2) (.slice tA2 tl2 tc2)
  simp only [Nat.zero_mul,Nat.zero_add] at R2 M2
  have HR2 := Lib.hid (R2.grow (Below.refl _ _).drew)
  have HM2 := Lib.hid (M2.grow (Below.refl _ _).drew)
  generalize ((((((((w10.setCell ⟨go,0,none⟩ (.bool sb1)).setCell ⟨go,1,none⟩ (.slice sA1 sl1 sc1)).setCell ⟨go,2,none⟩ (.bool sb2)).setCell ⟨go,3,none⟩ (.slice sA2 sl2 sc2)).setCell ⟨go,(b.sup.length - 1) * 4,none⟩ (.bool tb1)).setCell ⟨go,(b.sup.length - 1) * 4 + 1,none⟩ (.slice tA1 tl1 tc1)).setCell ⟨go,(b.sup.length - 1) * 4 + 2,none⟩ (.bool tb2)).setCell ⟨go,(b.sup.length - 1) * 4 + 3,none⟩ (.slice tA2 tl2 tc2)).drew = W11 at *
  have HN : Hid (go ≠ g5 ∧ go ≠ g6) := ⟨n5',n6'⟩
  clear R1 R2 M1 M2 E26 hk6 hk7 HRow HM10 HE HE2 p0 p1 p2 p3 x0 x1 x2 x3 o0 o1 o2 o3 l0 l1 l2 l3 fo0 fo1 fo2 fo3 fl0 fl1 fl2 fl3 j0 j1 j2 j3 j4 j5 j6 n5 n6 n5' n6' HG1 HG2
  go_wp2_with fail
  refine wp_region_apart 5 (fun i => if i = 1 then some (gR W11.heap.size b.sup.length) else if i = 3 then some (gR W11.heap.size b.sup.length) else none) [45,47] (by kernel_rfl) (by kernel_rfl) (by kernel_rfl) (two_none rfl rfl) ?_
  simp only [List.take_succ_cons,List.take_zero,List.drop_succ_cons,List.drop_zero]
  refine wpG_quiet 1 (by kernel_rfl) (by rfl) (by decide) ?_
  simp only [List.take_succ_cons,List.take_zero,List.drop_succ_cons,List.drop_zero]
  repeat (go_big_quiet_step (fail))
  refine wpQuiet_nil ?_
  refine wpG_new rfl rfl (fun w1 hb1 _ => gR_new rfl rfl rfl (by omega) hb1.size) ?_
  rintro _ ⟨gd,rfl⟩
  simp only [Act.put,List.setIfInBounds_toArray,List.set_cons_zero,List.set_cons_succ]
  refine wpG_quiet 1 (by kernel_rfl) (by rfl) (by decide) ?_
  simp only [List.take_succ_cons,List.take_zero,List.drop_succ_cons,List.drop_zero]
  repeat (go_big_quiet_step (fail))
  refine wpQuiet_nil ?_
  refine wpG_new rfl rfl (fun w1 hb1 _ => gR_new rfl rfl rfl (by omega) hb1.size) ?_
  rintro _ ⟨gr,rfl⟩
  simp only [Act.put,List.setIfInBounds_toArray,List.set_cons_zero,List.set_cons_succ]
  refine wpG_quiet 1 (by kernel_rfl) (by rfl) (by decide) ?_
  simp only [List.take_succ_cons,List.take_zero,List.drop_succ_cons,List.drop_zero]
  repeat (go_big_quiet_step (fail))
  refine wpQuiet_nil ?_
  refine wpG_nil ?_
  intro w12 hb12 hF hA
  have h45 : AtRow W11.heap.size b.sup.length (.slice (some ⟨gd,0,none⟩) b.sup.length b.sup.length) w12 := hF 45
  have h47 : AtRow W11.heap.size b.sup.length (.slice (some ⟨gr,0,none⟩) b.sup.length b.sup.length) w12 := hF 47
  have hdr : gr ≠ gd := fun e => (hA 45 (by simp) gd rfl).2 47 (by simp) (by decide) (by rw [e];rfl)
  have HMR : Hid (MomRows w w12 b #[.string b.name,.int .i64 b.len,.slice (some ⟨bs,os,none⟩) b.sup.length cs,.slice Al b.loads.length cl,.int .i64 b.even] g5 g6 go gd gr (putQ (putQ (fun _ => none) 0 (hangR b)) (b.sup.length - 1) (hangR (turnedT b))) (fun _ => none) (fun _ => none)) := by
   obtain ⟨_,e5,b45,r45⟩ := h45
   obtain ⟨_,e6,b47,r47⟩ := h47
   injection e5 with e5 _ _
   injection e5 with e5
   injection e5 with e5 _ _
   injection e6 with e6 _ _
   injection e6 with e6
   injection e6 with e6 _ _
   subst e5 e6
   have k1 := HR2.out.lt
   obtain ⟨_,_,_,_,_,_,_,_,k2,-⟩ := HM2.out.fst
   obtain ⟨_,_,_,_,_,_,_,_,k3,-⟩ := HM2.out.lst
   have k2 := k2.lt
   have k3 := k3.lt
   have k4 := HM2.out.bm.lt
   exact ⟨HM2.out.grow hb12,HR2.out.grow hb12,r45,r47,⟨HG3.out,by omega,by omega⟩,HN.out,⟨by omega,by omega⟩,⟨by omega,by omega⟩,⟨by omega,by omega,Ne.symm hdr⟩⟩
  clear hF hA h45 h47 hdr hb12 HM2 HR2 HN HG3
  go_wp2_with fail
  have HMR2 : Hid (MomRows w w12 b #[.string b.name,.int .i64 b.len,.slice (some ⟨bs,os,none⟩) b.sup.length cs,.slice Al b.loads.length cl,.int .i64 b.even] g5 g6 go gd gr (putQ (putQ (fun _ => none) 0 (hangR b)) (b.sup.length - 1) (hangR (turnedT b))) (uptoQ (diagR b) 1) (uptoQ (rhsR b) 1)) := by rw [uptoQ_one,uptoQ_one];exact HMR.out
  clear HMR
  go_loopw [10] (fun ix wr => ∃ i : Nat,1 ≤ i ∧ i + 1 ≤ b.sup.length ∧ ix = .int .i64 i ∧ Hid (MomRows w wr b #[.string b.name,.int .i64 b.len,.slice (some ⟨bs,os,none⟩) b.sup.length cs,.slice Al b.loads.length cl,.int .i64 b.even] g5 g6 go gd gr (putQ (putQ (fun _ => none) 0 (hangR b)) (b.sup.length - 1) (hangR (turnedT b))) (uptoQ (diagR b) i) (uptoQ (rhsR b) i))) (fun ix _ => b.sup.length - (intOf ix).toNat)
  case atStart => exact ⟨1,Nat.le_refl _,hm2',rfl,HMR2⟩
  case round =>
   clear HMR2
   obtain ⟨i,hi1,him,rfl,HR⟩ := hrel
   have k0 : (1 : Int) ≤ (i : Int) := by omega
   have k01 : (i : Int) ≤ 10 := by omega
   by_cases hil : i + 1 < b.sup.length
   ·have k1 : (i : Int) < (b.sup.length : Int) - 1 := by omega
    have y0 := HR.out.st.bm.cell 0
    have y1 := HR.out.st.bm.cell 1
    have y2 := HR.out.st.bm.cell 2
    have y3 := HR.out.st.bm.cell 3
    have y4 := HR.out.st.bm.cell 4
    simp only [List.getElem?_toArray,List.getElem?_cons_succ,List.getElem?_cons_zero] at y0 y1 y2 y3 y4
    have hz0 := Lib.hid (HSx.out (i - 1) (by omega))
    have hz1 := Lib.hid (HSx.out i (by omega))
    have hz2 := Lib.hid (HSx.out (i + 1) (by omega))
    have z0 := (HR.out.st.bel.cell (p := ⟨bs,os + (i - 1),none⟩) hbs).trans (HSx.out (i - 1) (by omega))
    have z1 := (HR.out.st.bel.cell (p := ⟨bs,os + i,none⟩) hbs).trans (HSx.out i (by omega))
    have z2 := (HR.out.st.bel.cell (p := ⟨bs,os + (i + 1),none⟩) hbs).trans (HSx.out (i + 1) (by omega))
    have t0 := Hb.out.sup (i - 1) (by omega)
    have t1 := Hb.out.inc (i - 1) (by omega)
    have t2 := Hb.out.inc i hil
    have t3 := Hb.out.sup (i + 1) hil
    have t4 := Hb.out.len
    rw [show i - 1 + 1 = i by omega] at t1
    have HK : Hid (spanK b i = supAt b i - supAt b (i - 1)) := rfl
    have HN : Hid (spanK b (i + 1) = supAt b (i + 1) - supAt b i) := rfl
    have HRH : Hid (rhs0 b i = ((0 : Int) : Rat) - sideR b (supAt b (i - 1)) (supAt b i) true - sideR b (supAt b i) (supAt b (i + 1)) false) := rfl
    have HSF := sideR_fits Hb.out (i := i - 1) (by omega) true
    rw [show i - 1 + 1 = i by omega] at HSF
    have HSF := Lib.hid HSF
    have HSF2 := Lib.hid (sideR_fits Hb.out (i := i) hil false)
    generalize supAt b (i - 1) = sp at *
    generalize supAt b i = sq at *
    generalize supAt b (i + 1) = sr at *
    obtain ⟨t01,t02⟩ := t0
    obtain ⟨t31,t32⟩ := t3
    obtain ⟨t41,t42⟩ := t4
    have i2 : ((i : Int) - 1).toNat = i - 1 := by omega
    have i3 : ((i : Int) + 1).toNat = i + 1 := by omega
    have i4 : (0 : Int) ≤ (i : Int) - 1 := by omega
    have i5 : (i : Int) - 1 < (b.sup.length : Int) := by omega
    have i6 : (i : Int) + 1 < (b.sup.length : Int) := by omega
    have i7 : (i : Int) < (b.sup.length : Int) := by omega
    have i8 : (0 : Int) ≤ (i : Int) := by omega
    have i9 : (0 : Int) ≤ (i : Int) + 1 := by omega
    have v1 : IntKind.i64.wrap ((i : Int) - 1) = (i : Int) - 1 := IntWalk.i64_in _ (by omega)
    have v2 : IntKind.i64.wrap ((i : Int) + 1) = (i : Int) + 1 := IntWalk.i64_in _ (by omega)
    have v3 : IntKind.i64.wrap (sq - sp) = sq - sp := IntWalk.i64_in _ (by omega)
    have v4 : IntKind.i64.wrap (sr - sq) = sr - sq := IntWalk.i64_in _ (by omega)
    go_wp2_with fail
    go_quiet (fail)
    go_wp2_with fail
    refine (bmWhole _ _ (by omega) (by omega)).mono ?_
    rintro e w5 ⟨hb5,v5,rfl,hE5⟩
    obtain ⟨d5b1,d5A1,d5l1,d5c1,d5b2,d5A2,d5l2,d5c2,rfl,-,-⟩ := hE5.form
    have HE5 := Lib.hid hE5
    have HR5 := Lib.hid ((HR.out.drew nq).grow hb5)
    obtain ⟨_,_,_,_,_,_,_,_,o0,o1,o2,o3,-⟩ := HR5.out.dia.read (i := i) (by omega)
    have fo0 := HR5.out.dia.frozen (i * 4)
    have fo1 := HR5.out.dia.frozen (i * 4 + 1)
    have fo2 := HR5.out.dia.frozen (i * 4 + 2)
    have fo3 := HR5.out.dia.frozen (i * 4 + 3)
    clear hE5 hb5 HR
    go_wp2_with fail
    have HR6 := Lib.hid (HR5.out.putD (i := i) (by omega) HE5.out)
    generalize ((((w5.setCell ⟨gd,i * 4,none⟩ (.bool d5b1)).setCell ⟨gd,i * 4 + 1,none⟩ (.slice d5A1 d5l1 d5c1)).setCell ⟨gd,i * 4 + 2,none⟩ (.bool d5b2)).setCell ⟨gd,i * 4 + 3,none⟩ (.slice d5A2 d5l2 d5c2)) = W6 at *
    clear HR5 HE5 o0 o1 o2 o3 fo0 fo1 fo2 fo3
    have y0 := HR6.out.st.bm.cell 0
    have y1 := HR6.out.st.bm.cell 1
    have y2 := HR6.out.st.bm.cell 2
    have y3 := HR6.out.st.bm.cell 3
    have y4 := HR6.out.st.bm.cell 4
    simp only [List.getElem?_toArray,List.getElem?_cons_succ,List.getElem?_cons_zero] at y0 y1 y2 y3 y4
    have ub0 := HeldB.cell y0
    have ub1 := HeldB.cell y1
    have ub2 := HeldB.cell y2
    have ub3 := HeldB.cell y3
    have ub4 := HeldB.cell y4
    have z0 := (HR6.out.st.bel.cell (p := ⟨bs,os + (i - 1),none⟩) hbs).trans hz0.out
    have z1 := (HR6.out.st.bel.cell (p := ⟨bs,os + i,none⟩) hbs).trans hz1.out
    have z2 := (HR6.out.st.bel.cell (p := ⟨bs,os + (i + 1),none⟩) hbs).trans hz2.out
    have us0 := HeldB.cell z0
    have us1 := HeldB.cell z1
    have us2 := HeldB.cell z2
    clear y0 y1 y2 y3 y4 z0 z1 z2
    have Hbel := Lib.hid HR6.out.st.bel
    refine wp_region_grow 32 (fun jx => if jx = 2 then some (gE (((0 : Int) : Rat))) else if jx = 15 then some (gE (sideR b sp sq true)) else if jx = 16 then some (gE (((0 : Int) : Rat) - sideR b sp sq true)) else if jx = 29 then some (gE (sideR b sq sr false)) else if jx = 30 then some (gE (((0 : Int) : Rat) - sideR b sp sq true - sideR b sq sr false)) else none) (by kernel_rfl) (by kernel_rfl) ?_
    simp only [List.take_succ_cons,List.take_zero,List.drop_succ_cons,List.drop_zero]
    refine wpG_quiet 2 (by kernel_rfl) (by rfl) (by decide) ?_
    simp only [List.take_succ_cons,List.take_zero,List.drop_succ_cons,List.drop_zero]
    repeat (go_big_quiet_step (fail))
    refine wpQuiet_nil ?_
    refine wpG_call rfl rfl ?_ ?_
    ·intro w1 hb1 hk
     have hb := (Hbel.out).trans (hb1.mono (Hbel.out).size)
     have hC := MakesE.g (bmWhole 0 w1 (by decide) (by decide))
     exact ⟨192,#[.int .i64 0],by go_simp,hC⟩
    rintro _ ⟨r88b1,r88A1,r88l1,r88c1,r88b2,r88A2,r88l2,r88c2,rfl⟩
    simp only [Act.put,List.setIfInBounds_toArray,List.set_cons_zero,List.set_cons_succ]
    refine wpG_quiet 12 (by kernel_rfl) (by rfl) (by decide) ?_
    simp only [List.take_succ_cons,List.take_zero,List.drop_succ_cons,List.drop_zero]
    repeat (go_big_quiet_step (fail))
    refine wpQuiet_nil ?_
    refine wpG_call rfl rfl ?_ ?_
    ·intro w1 hb1 hk
     have hb := (Hbel.out).trans (hb1.mono (Hbel.out).size)
     have hC := MakesE.g (bmSide _ b sp sq true w1 ((HV.out.below hb (Nat.le_refl _)).mono hb.size) Hb.out (by omega) (by omega) (by omega))
     exact ⟨236,#[.agg #[.string b.name,.int .i64 b.len,.slice (some ⟨bs,os,none⟩) b.sup.length cs,.slice Al b.loads.length cl,.int .i64 b.even],.int .i64 sp,.int .i64 sq,.bool true],by go_simp,hC⟩
    rintro _ ⟨r101b1,r101A1,r101l1,r101c1,r101b2,r101A2,r101l2,r101c2,rfl⟩
    simp only [Act.put,List.setIfInBounds_toArray,List.set_cons_zero,List.set_cons_succ]
    refine wpG_call rfl rfl ?_ ?_
    ·intro w1 hb1 hk
     have hb := (Hbel.out).trans (hb1.mono (Hbel.out).size)
     have h88 : ExactAt w1 (.agg #[.bool r88b1,.slice r88A1 r88l1 r88c1,.bool r88b2,.slice r88A2 r88l2 r88c2]) (((0 : Int) : Rat)) := hk 88 (of_decide_eq_true (by kernel_rfl))
     have h101 : ExactAt w1 (.agg #[.bool r101b1,.slice r101A1 r101l1 r101c1,.bool r101b2,.slice r101A2 r101l2 r101c2]) (sideR b sp sq true) := hk 101 (of_decide_eq_true (by kernel_rfl))
     have hC := MakesE.g (bmELess _ _ _ _ 1 245 w1 h88 h101 (fits_int (by decide) (Nat.le_refl _)) HSF.out (by decide))
     exact ⟨195,#[.agg #[.bool r88b1,.slice r88A1 r88l1 r88c1,.bool r88b2,.slice r88A2 r88l2 r88c2],.agg #[.bool r101b1,.slice r101A1 r101l1 r101c1,.bool r101b2,.slice r101A2 r101l2 r101c2]],by go_simp,hC⟩
    rintro _ ⟨r102b1,r102A1,r102l1,r102c1,r102b2,r102A2,r102l2,r102c2,rfl⟩
    simp only [Act.put,List.setIfInBounds_toArray,List.set_cons_zero,List.set_cons_succ]
    refine wpG_quiet 12 (by kernel_rfl) (by rfl) (by decide) ?_
    simp only [List.take_succ_cons,List.take_zero,List.drop_succ_cons,List.drop_zero]
    repeat (go_big_quiet_step (fail))
    refine wpQuiet_nil ?_
    refine wpG_call rfl rfl ?_ ?_
    ·intro w1 hb1 hk
     have hb := (Hbel.out).trans (hb1.mono (Hbel.out).size)
     have hC := MakesE.g (bmSide _ b sq sr false w1 ((HV.out.below hb (Nat.le_refl _)).mono hb.size) Hb.out (by omega) (by omega) (by omega))
     exact ⟨236,#[.agg #[.string b.name,.int .i64 b.len,.slice (some ⟨bs,os,none⟩) b.sup.length cs,.slice Al b.loads.length cl,.int .i64 b.even],.int .i64 sq,.int .i64 sr,.bool false],by go_simp,hC⟩
    rintro _ ⟨r115b1,r115A1,r115l1,r115c1,r115b2,r115A2,r115l2,r115c2,rfl⟩
    simp only [Act.put,List.setIfInBounds_toArray,List.set_cons_zero,List.set_cons_succ]
    refine wpG_call rfl rfl ?_ ?_
    ·intro w1 hb1 hk
     have hb := (Hbel.out).trans (hb1.mono (Hbel.out).size)
     have h102 : ExactAt w1 (.agg #[.bool r102b1,.slice r102A1 r102l1 r102c1,.bool r102b2,.slice r102A2 r102l2 r102c2]) (((0 : Int) : Rat) - sideR b sp sq true) := hk 102 (of_decide_eq_true (by kernel_rfl))
     have h115 : ExactAt w1 (.agg #[.bool r115b1,.slice r115A1 r115l1 r115c1,.bool r115b2,.slice r115A2 r115l2 r115c2]) (sideR b sq sr false) := hk 115 (of_decide_eq_true (by kernel_rfl))
     have hC := MakesE.g (bmELess _ _ _ _ 247 245 w1 h102 h115 (fits_sub (K := 1) (M := 245) (fits_int (by decide) (Nat.le_refl _)) HSF.out) HSF2.out (by decide))
     exact ⟨195,#[.agg #[.bool r102b1,.slice r102A1 r102l1 r102c1,.bool r102b2,.slice r102A2 r102l2 r102c2],.agg #[.bool r115b1,.slice r115A1 r115l1 r115c1,.bool r115b2,.slice r115A2 r115l2 r115c2]],by go_simp,hC⟩
    rintro _ ⟨r116b1,r116A1,r116l1,r116c1,r116b2,r116A2,r116l2,r116c2,rfl⟩
    simp only [Act.put,List.setIfInBounds_toArray,List.set_cons_zero,List.set_cons_succ]
    refine wpG_quiet 1 (by kernel_rfl) (by rfl) (by decide) ?_
    simp only [List.take_succ_cons,List.take_zero,List.drop_succ_cons,List.drop_zero]
    repeat (go_big_quiet_step (fail))
    refine wpQuiet_nil ?_
    refine wpG_nil ?_
    intro w8 hb8 hF
    have h116 : ExactAt w8 (.agg #[.bool r116b1,.slice r116A1 r116l1 r116c1,.bool r116b2,.slice r116A2 r116l2 r116c2]) (((0 : Int) : Rat) - sideR b sp sq true - sideR b sq sr false) := hF 116
    rw [← HRH.out] at h116
    have HE116 := Lib.hid h116
    have HR8 := Lib.hid (HR6.out.grow hb8)
    obtain ⟨_,_,_,_,_,_,_,_,o0,o1,o2,o3,-⟩ := HR8.out.rgt.read (i := i) (by omega)
    have fo0 := HR8.out.rgt.frozen (i * 4)
    have fo1 := HR8.out.rgt.frozen (i * 4 + 1)
    have fo2 := HR8.out.rgt.frozen (i * 4 + 2)
    have fo3 := HR8.out.rgt.frozen (i * 4 + 3)
    clear hF h116 hb8 HR6 Hbel ub0 ub1 ub2 ub3 ub4 us0 us1 us2
    by_cases h1 : i = 1
    ·have hd : ((i : Int) == 1) = true := beq_iff_eq.2 (by omega)
     have hFR := rhs0_fits Hb.out hi1 hil
     have HFR := Lib.hid hFR
     have HE1 : Hid (diagR b i = ((2 * (sq - sp + (sr - sq)) : Int) : Rat)) := by unfold Hid;rw [← HK.out,← HN.out,h1];rfl
     have HE2 : Hid (rhsR b i = rhs0 b i - hangR b * ((sq - sp : Int) : Rat)) := by unfold Hid;rw [← HK.out,h1];rfl
     clear h1 hFR
     go_wp2_with fail
     have HR9 := Lib.hid (HR8.out.putR (i := i) (by omega) HE116.out)
     generalize ((((w8.setCell ⟨gr,i * 4,none⟩ (.bool r116b1)).setCell ⟨gr,i * 4 + 1,none⟩ (.slice r116A1 r116l1 r116c1)).setCell ⟨gr,i * 4 + 2,none⟩ (.bool r116b2)).setCell ⟨gr,i * 4 + 3,none⟩ (.slice r116A2 r116l2 r116c2)) = W9 at *
     clear HR8 HE116 o0 o1 o2 o3 fo0 fo1 fo2 fo3
     obtain ⟨pb1,pA1,pl1,pc1,pb2,pA2,pl2,pc2,a0,a1,a2,a3,hEa⟩ := HR9.out.rgt.read (i := i) (by omega)
     have HEa := Lib.hid (hEa _ (putQ_same _ _ _))
     have ua0 := HeldB.cell a0
     have ua1 := HeldB.cell a1
     have ua2 := HeldB.cell a2
     have ua3 := HeldB.cell a3
     clear a0 a1 a2 a3 hEa
     obtain ⟨qb1,qA1,ql1,qc1,qb2,qA2,ql2,qc2,hBc,hEc⟩ := HR9.out.st.fst
     have c0 := hBc.cell 0
     have c1 := hBc.cell 1
     have c2 := hBc.cell 2
     have c3 := hBc.cell 3
     simp only [List.getElem?_toArray,List.getElem?_cons_succ,List.getElem?_cons_zero] at c0 c1 c2 c3
     have HEc := Lib.hid hEc
     have uc0 := HeldB.cell c0
     have uc1 := HeldB.cell c1
     have uc2 := HeldB.cell c2
     have uc3 := HeldB.cell c3
     clear c0 c1 c2 c3 hEc hBc
     have Hbel := Lib.hid HR9.out.st.bel
     refine wp_region_grow 12 (fun jx => if jx = 8 then some (gE (((sq - sp : Int) : Rat))) else if jx = 9 then some (gE (hangR b * ((sq - sp : Int) : Rat))) else if jx = 10 then some (gE (rhs0 b i - hangR b * ((sq - sp : Int) : Rat))) else none) (by kernel_rfl) (by kernel_rfl) ?_
     simp only [List.take_succ_cons,List.take_zero,List.drop_succ_cons,List.drop_zero]
     refine wpG_quiet 8 (by kernel_rfl) (by rfl) (by decide) ?_
     simp only [List.take_succ_cons,List.take_zero,List.drop_succ_cons,List.drop_zero]
     repeat (go_big_quiet_step (fail))
     refine wpQuiet_nil ?_
     refine wpG_call rfl rfl ?_ ?_
     ·intro w1 hb1 hk
      have hb := (Hbel.out).trans (hb1.mono (Hbel.out).size)
      have hC := MakesE.g (bmWhole (sq - sp) w1 (by omega) (by omega))
      exact ⟨192,#[.int .i64 (sq - sp)],by go_simp,hC⟩
     rintro _ ⟨r128b1,r128A1,r128l1,r128c1,r128b2,r128A2,r128l2,r128c2,rfl⟩
     simp only [Act.put,List.setIfInBounds_toArray,List.set_cons_zero,List.set_cons_succ]
     refine wpG_call rfl rfl ?_ ?_
     ·intro w1 hb1 hk
      have hb := (Hbel.out).trans (hb1.mono (Hbel.out).size)
      have h128 : ExactAt w1 (.agg #[.bool r128b1,.slice r128A1 r128l1 r128c1,.bool r128b2,.slice r128A2 r128l2 r128c2]) (((sq - sp : Int) : Rat)) := hk 128 (of_decide_eq_true (by kernel_rfl))
      have hC := MakesE.g (bmETimes _ _ _ _ 247 1 w1 (HEc.out.grow hb1) h128 (hangR_fits Hb.out) (fits_int (by rw [Nat.pow_one];omega) (Nat.le_refl _)) (by decide))
      exact ⟨237,#[.agg #[.bool qb1,.slice qA1 ql1 qc1,.bool qb2,.slice qA2 ql2 qc2],.agg #[.bool r128b1,.slice r128A1 r128l1 r128c1,.bool r128b2,.slice r128A2 r128l2 r128c2]],by go_simp,hC⟩
     rintro _ ⟨r129b1,r129A1,r129l1,r129c1,r129b2,r129A2,r129l2,r129c2,rfl⟩
     simp only [Act.put,List.setIfInBounds_toArray,List.set_cons_zero,List.set_cons_succ]
     refine wpG_call rfl rfl ?_ ?_
     ·intro w1 hb1 hk
      have hb := (Hbel.out).trans (hb1.mono (Hbel.out).size)
      have h129 : ExactAt w1 (.agg #[.bool r129b1,.slice r129A1 r129l1 r129c1,.bool r129b2,.slice r129A2 r129l2 r129c2]) (hangR b * ((sq - sp : Int) : Rat)) := hk 129 (of_decide_eq_true (by kernel_rfl))
      have hC := MakesE.g (bmELess _ _ _ _ 493 248 w1 (HEa.out.grow hb1) h129 HFR.out (fits_mul (K := 247) (M := 1) (hangR_fits Hb.out) (fits_int (by rw [Nat.pow_one];omega) (Nat.le_refl _))) (by decide))
      exact ⟨195,#[.agg #[.bool pb1,.slice pA1 pl1 pc1,.bool pb2,.slice pA2 pl2 pc2],.agg #[.bool r129b1,.slice r129A1 r129l1 r129c1,.bool r129b2,.slice r129A2 r129l2 r129c2]],by go_simp,hC⟩
     rintro _ ⟨r130b1,r130A1,r130l1,r130c1,r130b2,r130A2,r130l2,r130c2,rfl⟩
     simp only [Act.put,List.setIfInBounds_toArray,List.set_cons_zero,List.set_cons_succ]
     refine wpG_quiet 1 (by kernel_rfl) (by rfl) (by decide) ?_
     simp only [List.take_succ_cons,List.take_zero,List.drop_succ_cons,List.drop_zero]
     repeat (go_big_quiet_step (fail))
     refine wpQuiet_nil ?_
     refine wpG_nil ?_
     intro w8 hb8 hF
     have h130 : ExactAt w8 (.agg #[.bool r130b1,.slice r130A1 r130l1 r130c1,.bool r130b2,.slice r130A2 r130l2 r130c2]) (rhs0 b i - hangR b * ((sq - sp : Int) : Rat)) := hF 130
     have HE130 := Lib.hid h130
     have HRa := Lib.hid (HR9.out.grow hb8)
     obtain ⟨_,_,_,_,_,_,_,_,o0,o1,o2,o3,-⟩ := HRa.out.rgt.read (i := i) (by omega)
     have fo0 := HRa.out.rgt.frozen (i * 4)
     have fo1 := HRa.out.rgt.frozen (i * 4 + 1)
     have fo2 := HRa.out.rgt.frozen (i * 4 + 2)
     have fo3 := HRa.out.rgt.frozen (i * 4 + 3)
     clear hF h130 hb8 HR9 Hbel ua0 ua1 ua2 ua3 HEa uc0 uc1 uc2 uc3 HEc
     go_wp2_with fail
     have HRb := Lib.hid (HRa.out.putR (i := i) (by omega) HE130.out)
     generalize ((((w8.setCell ⟨gr,i * 4,none⟩ (.bool r130b1)).setCell ⟨gr,i * 4 + 1,none⟩ (.slice r130A1 r130l1 r130c1)).setCell ⟨gr,i * 4 + 2,none⟩ (.bool r130b2)).setCell ⟨gr,i * 4 + 3,none⟩ (.slice r130A2 r130l2 r130c2)) = W10 at *
     have HRn : Hid (MomRows w W10 b #[.string b.name,.int .i64 b.len,.slice (some ⟨bs,os,none⟩) b.sup.length cs,.slice Al b.loads.length cl,.int .i64 b.even] g5 g6 go gd gr (putQ (putQ (fun _ => none) 0 (hangR b)) (b.sup.length - 1) (hangR (turnedT b))) (uptoQ (diagR b) (i + 1)) (uptoQ (rhsR b) (i + 1))) := by
      unfold Hid
      rw [uptoQ_succ _ hi1,uptoQ_succ _ hi1,HE1.out,HE2.out,← putQ_putQ (uptoQ (rhsR b) i) i (rhs0 b i)]
      exact HRb.out
     clear HRa HRb HE130 o0 o1 o2 o3 fo0 fo1 fo2 fo3
     go_roundw
     case rel => exact ⟨i + 1,by omega,by omega,by go_num,HRn⟩
     case measure => simp [intOf];omega
    ·have hd : ((i : Int) == 1) = false := beq_eq_false_iff_ne.2 (by omega)
     have HFR := Lib.hid (rhs0_fits Hb.out hi1 hil)
     have HE1 : Hid (diagR b i = ((2 * (sq - sp + (sr - sq)) : Int) : Rat) - ((sq - sp : Int) : Rat) / diagR b (i - 1) * ((sq - sp : Int) : Rat)) := by unfold Hid;rw [← HK.out,← HN.out];exact diag_two b (by omega)
     have HE2 : Hid (rhsR b i = rhs0 b i - ((sq - sp : Int) : Rat) / diagR b (i - 1) * rhsR b (i - 1)) := by unfold Hid;rw [← HK.out];exact rhs_two b (by omega)
     have HDz := Lib.hid (diag_ne Hb.out (i := i - 1) (by omega) (by omega))
     have HDf := Lib.hid (fits_mono (M := 41) (diag_fits Hb.out (i - 1) (by omega) (by omega)) (by omega))
     have HRf := Lib.hid (fits_mono (M := 6200) (rhs_fits Hb.out (i - 1) (by omega) (by omega)) (by omega))
     have HDd := Lib.hid (two_fits Hb.out (i := i) hi1 hil)
     rw [HK.out,HN.out] at HDd
     go_wp2_with fail
     have HR9 := Lib.hid (HR8.out.putR (i := i) (by omega) HE116.out)
     generalize ((((w8.setCell ⟨gr,i * 4,none⟩ (.bool r116b1)).setCell ⟨gr,i * 4 + 1,none⟩ (.slice r116A1 r116l1 r116c1)).setCell ⟨gr,i * 4 + 2,none⟩ (.bool r116b2)).setCell ⟨gr,i * 4 + 3,none⟩ (.slice r116A2 r116l2 r116c2)) = W9 at *
     clear HR8 HE116 o0 o1 o2 o3 fo0 fo1 fo2 fo3
     obtain ⟨pb1,pA1,pl1,pc1,pb2,pA2,pl2,pc2,a0,a1,a2,a3,hEa⟩ := HR9.out.dia.read (i := (i - 1)) (by omega)
     have HEa := Lib.hid (hEa _ ((putQ_other _ _ (by omega)).trans (uptoQ_at _ (by omega) (by omega))))
     have ua0 := HeldB.cell a0
     have ua1 := HeldB.cell a1
     have ua2 := HeldB.cell a2
     have ua3 := HeldB.cell a3
     clear a0 a1 a2 a3 hEa
     have Hbel := Lib.hid HR9.out.st.bel
     refine wp_region_grow 9 (fun jx => if jx = 1 then some (gE (((sq - sp : Int) : Rat))) else if jx = 7 then some (gE (((sq - sp : Int) : Rat) / diagR b (i - 1))) else if jx = 8 then some (gA W9.heap.size) else none) (by kernel_rfl) (by kernel_rfl) ?_
     simp only [List.take_succ_cons,List.take_zero,List.drop_succ_cons,List.drop_zero]
     refine wpG_quiet 1 (by kernel_rfl) (by rfl) (by decide) ?_
     simp only [List.take_succ_cons,List.take_zero,List.drop_succ_cons,List.drop_zero]
     repeat (go_big_quiet_step (fail))
     refine wpQuiet_nil ?_
     refine wpG_call rfl rfl ?_ ?_
     ·intro w1 hb1 hk
      have hb := (Hbel.out).trans (hb1.mono (Hbel.out).size)
      have hC := MakesE.g (bmWhole (sq - sp) w1 (by omega) (by omega))
      exact ⟨192,#[.int .i64 (sq - sp)],by go_simp,hC⟩
     rintro _ ⟨r133b1,r133A1,r133l1,r133c1,r133b2,r133A2,r133l2,r133c2,rfl⟩
     simp only [Act.put,List.setIfInBounds_toArray,List.set_cons_zero,List.set_cons_succ]
     refine wpG_quiet 5 (by kernel_rfl) (by rfl) (by decide) ?_
     simp only [List.take_succ_cons,List.take_zero,List.drop_succ_cons,List.drop_zero]
     repeat (go_big_quiet_step (fail))
     refine wpQuiet_nil ?_
     refine wpG_call rfl rfl ?_ ?_
     ·intro w1 hb1 hk
      have hb := (Hbel.out).trans (hb1.mono (Hbel.out).size)
      have h133 : ExactAt w1 (.agg #[.bool r133b1,.slice r133A1 r133l1 r133c1,.bool r133b2,.slice r133A2 r133l2 r133c2]) (((sq - sp : Int) : Rat)) := hk 133 (of_decide_eq_true (by kernel_rfl))
      have hC := MakesE.g (bmEBy _ _ _ _ 1 41 w1 h133 (HEa.out.grow hb1) (fits_int (by rw [Nat.pow_one];omega) (Nat.le_refl _)) HDf.out HDz.out (by decide))
      exact ⟨196,#[.agg #[.bool r133b1,.slice r133A1 r133l1 r133c1,.bool r133b2,.slice r133A2 r133l2 r133c2],.agg #[.bool pb1,.slice pA1 pl1 pc1,.bool pb2,.slice pA2 pl2 pc2]],by go_simp,hC⟩
     rintro _ ⟨r139b1,r139A1,r139l1,r139c1,r139b2,r139A2,r139l2,r139c2,rfl⟩
     simp only [Act.put,List.setIfInBounds_toArray,List.set_cons_zero,List.set_cons_succ]
     refine wpG_new rfl rfl (fun w1 hb1 _ => gA_new hb1.size (by go_simp)) ?_
     rintro _ ⟨g13,rfl⟩
     simp only [Act.put,List.setIfInBounds_toArray,List.set_cons_zero,List.set_cons_succ]
     refine wpG_nil ?_
     intro w8 hb8 hF
     have h139 : ExactAt w8 (.agg #[.bool r139b1,.slice r139A1 r139l1 r139c1,.bool r139b2,.slice r139A2 r139l2 r139c2]) (((sq - sp : Int) : Rat) / diagR b (i - 1)) := hF 139
     have h13 : AtBox W9.heap.size (.pointer (some ⟨g13,0,none⟩)) w8 := hF 13
     have HE139 := Lib.hid h139
     have HRa := Lib.hid (HR9.out.grow hb8)
     obtain ⟨_,e13,b13,k13⟩ := h13
     injection e13 with e13
     injection e13 with e13
     injection e13 with e13 _ _
     subst e13
     have HAl := Lib.hid (HR9.out.all_lt b13)
     have q0 := k13.cell 0
     have q1 := k13.cell 1
     have q2 := k13.cell 2
     have q3 := k13.cell 3
     have f0 := k13.frozen 0
     have f1 := k13.frozen 1
     have f2 := k13.frozen 2
     have f3 := k13.frozen 3
     simp only [List.getElem?_toArray,List.getElem?_cons_succ,List.getElem?_cons_zero] at q0 q1 q2 q3
     have HK13 := Lib.hid k13
     clear hF h139 hb8 HR9 Hbel b13 k13 ua0 ua1 ua2 ua3 HEa
     go_wp2_with fail
     have HRb := Lib.hid (HRa.out.farB HK13.out HAl.out (.bool r139b1) (.slice r139A1 r139l1 r139c1) (.bool r139b2) (.slice r139A2 r139l2 r139c2))
     have HBx := Lib.hid (ExBox.put HK13.out rfl HE139.out)
     generalize (((w8.setCell ⟨g13,0,none⟩ (.bool r139b1)).setCell ⟨g13,1,none⟩ (.slice r139A1 r139l1 r139c1)).setCell ⟨g13,2,none⟩ (.bool r139b2)).setCell ⟨g13,3,none⟩ (.slice r139A2 r139l2 r139c2) = W10 at *
     clear HRa HK13 HE139 q0 q1 q2 q3 f0 f1 f2 f3
     obtain ⟨pb1,pA1,pl1,pc1,pb2,pA2,pl2,pc2,a0,a1,a2,a3,hEa⟩ := HRb.out.dia.read (i := i) (by omega)
     have HEa := Lib.hid (hEa _ (putQ_same _ _ _))
     have ua0 := HeldB.cell a0
     have ua1 := HeldB.cell a1
     have ua2 := HeldB.cell a2
     have ua3 := HeldB.cell a3
     clear a0 a1 a2 a3 hEa
     obtain ⟨qb1,qA1,ql1,qc1,qb2,qA2,ql2,qc2,hBc,hEc⟩ := HBx.out
     have c0 := hBc.cell 0
     have c1 := hBc.cell 1
     have c2 := hBc.cell 2
     have c3 := hBc.cell 3
     simp only [List.getElem?_toArray,List.getElem?_cons_succ,List.getElem?_cons_zero] at c0 c1 c2 c3
     have HEc := Lib.hid hEc
     have uc0 := HeldB.cell c0
     have uc1 := HeldB.cell c1
     have uc2 := HeldB.cell c2
     have uc3 := HeldB.cell c3
     clear c0 c1 c2 c3 hEc hBc
     have Hbel := Lib.hid HRb.out.st.bel
     refine wp_region_grow 12 (fun jx => if jx = 8 then some (gE (((sq - sp : Int) : Rat))) else if jx = 9 then some (gE (((sq - sp : Int) : Rat) / diagR b (i - 1) * ((sq - sp : Int) : Rat))) else if jx = 10 then some (gE (((2 * (sq - sp + (sr - sq)) : Int) : Rat) - ((sq - sp : Int) : Rat) / diagR b (i - 1) * ((sq - sp : Int) : Rat))) else none) (by kernel_rfl) (by kernel_rfl) ?_
     simp only [List.take_succ_cons,List.take_zero,List.drop_succ_cons,List.drop_zero]
     refine wpG_quiet 8 (by kernel_rfl) (by rfl) (by decide) ?_
     simp only [List.take_succ_cons,List.take_zero,List.drop_succ_cons,List.drop_zero]
     repeat (go_big_quiet_step (fail))
     refine wpQuiet_nil ?_
     refine wpG_call rfl rfl ?_ ?_
     ·intro w1 hb1 hk
      have hb := (Hbel.out).trans (hb1.mono (Hbel.out).size)
      have hC := MakesE.g (bmWhole (sq - sp) w1 (by omega) (by omega))
      exact ⟨192,#[.int .i64 (sq - sp)],by go_simp,hC⟩
     rintro _ ⟨r148b1,r148A1,r148l1,r148c1,r148b2,r148A2,r148l2,r148c2,rfl⟩
     simp only [Act.put,List.setIfInBounds_toArray,List.set_cons_zero,List.set_cons_succ]
     refine wpG_call rfl rfl ?_ ?_
     ·intro w1 hb1 hk
      have hb := (Hbel.out).trans (hb1.mono (Hbel.out).size)
      have h148 : ExactAt w1 (.agg #[.bool r148b1,.slice r148A1 r148l1 r148c1,.bool r148b2,.slice r148A2 r148l2 r148c2]) (((sq - sp : Int) : Rat)) := hk 148 (of_decide_eq_true (by kernel_rfl))
      have hC := MakesE.g (bmETimes _ _ _ _ 42 1 w1 (HEc.out.grow hb1) h148 (fits_div (K := 1) (M := 41) HDz.out (fits_int (by rw [Nat.pow_one];omega) (Nat.le_refl _)) HDf.out) (fits_int (by rw [Nat.pow_one];omega) (Nat.le_refl _)) (by decide))
      exact ⟨237,#[.agg #[.bool qb1,.slice qA1 ql1 qc1,.bool qb2,.slice qA2 ql2 qc2],.agg #[.bool r148b1,.slice r148A1 r148l1 r148c1,.bool r148b2,.slice r148A2 r148l2 r148c2]],by go_simp,hC⟩
     rintro _ ⟨r149b1,r149A1,r149l1,r149c1,r149b2,r149A2,r149l2,r149c2,rfl⟩
     simp only [Act.put,List.setIfInBounds_toArray,List.set_cons_zero,List.set_cons_succ]
     refine wpG_call rfl rfl ?_ ?_
     ·intro w1 hb1 hk
      have hb := (Hbel.out).trans (hb1.mono (Hbel.out).size)
      have h149 : ExactAt w1 (.agg #[.bool r149b1,.slice r149A1 r149l1 r149c1,.bool r149b2,.slice r149A2 r149l2 r149c2]) (((sq - sp : Int) : Rat) / diagR b (i - 1) * ((sq - sp : Int) : Rat)) := hk 149 (of_decide_eq_true (by kernel_rfl))
      have hC := MakesE.g (bmELess _ _ _ _ 1 43 w1 (HEa.out.grow hb1) h149 HDd.out (fits_mul (K := 42) (M := 1) (fits_div (K := 1) (M := 41) HDz.out (fits_int (by rw [Nat.pow_one];omega) (Nat.le_refl _)) HDf.out) (fits_int (by rw [Nat.pow_one];omega) (Nat.le_refl _))) (by decide))
      exact ⟨195,#[.agg #[.bool pb1,.slice pA1 pl1 pc1,.bool pb2,.slice pA2 pl2 pc2],.agg #[.bool r149b1,.slice r149A1 r149l1 r149c1,.bool r149b2,.slice r149A2 r149l2 r149c2]],by go_simp,hC⟩
     rintro _ ⟨r150b1,r150A1,r150l1,r150c1,r150b2,r150A2,r150l2,r150c2,rfl⟩
     simp only [Act.put,List.setIfInBounds_toArray,List.set_cons_zero,List.set_cons_succ]
     refine wpG_quiet 1 (by kernel_rfl) (by rfl) (by decide) ?_
     simp only [List.take_succ_cons,List.take_zero,List.drop_succ_cons,List.drop_zero]
     repeat (go_big_quiet_step (fail))
     refine wpQuiet_nil ?_
     refine wpG_nil ?_
     intro w8 hb8 hF
     have h150 : ExactAt w8 (.agg #[.bool r150b1,.slice r150A1 r150l1 r150c1,.bool r150b2,.slice r150A2 r150l2 r150c2]) (((2 * (sq - sp + (sr - sq)) : Int) : Rat) - ((sq - sp : Int) : Rat) / diagR b (i - 1) * ((sq - sp : Int) : Rat)) := hF 150
     have HE150 := Lib.hid h150
     have HRc := Lib.hid (HRb.out.grow hb8)
     have HBy := Lib.hid (HBx.out.grow hb8)
     obtain ⟨_,_,_,_,_,_,_,_,o0,o1,o2,o3,-⟩ := HRc.out.dia.read (i := i) (by omega)
     have fo0 := HRc.out.dia.frozen (i * 4)
     have fo1 := HRc.out.dia.frozen (i * 4 + 1)
     have fo2 := HRc.out.dia.frozen (i * 4 + 2)
     have fo3 := HRc.out.dia.frozen (i * 4 + 3)
     clear hF h150 hb8 HRb HBx Hbel ua0 ua1 ua2 ua3 HEa uc0 uc1 uc2 uc3 HEc
     go_wp2_with fail
     have HRd := Lib.hid (HRc.out.putD (i := i) (by omega) HE150.out)
     obtain ⟨csd,hkd⟩ := HRc.out.dia.blk
     have HBz := Lib.hid (HBy.out.far hkd (Nat.ne_of_gt (HAl.out gd (by simp))) (i * 4) (.bool r150b1) (.slice r150A1 r150l1 r150c1) (.bool r150b2) (.slice r150A2 r150l2 r150c2))
     generalize ((((w8.setCell ⟨gd,i * 4,none⟩ (.bool r150b1)).setCell ⟨gd,i * 4 + 1,none⟩ (.slice r150A1 r150l1 r150c1)).setCell ⟨gd,i * 4 + 2,none⟩ (.bool r150b2)).setCell ⟨gd,i * 4 + 3,none⟩ (.slice r150A2 r150l2 r150c2)) = W11 at *
     clear HRc HBy hkd HE150 o0 o1 o2 o3 fo0 fo1 fo2 fo3
     obtain ⟨pb1,pA1,pl1,pc1,pb2,pA2,pl2,pc2,a0,a1,a2,a3,hEa⟩ := HRd.out.rgt.read (i := i) (by omega)
     have HEa := Lib.hid (hEa _ (putQ_same _ _ _))
     have ua0 := HeldB.cell a0
     have ua1 := HeldB.cell a1
     have ua2 := HeldB.cell a2
     have ua3 := HeldB.cell a3
     clear a0 a1 a2 a3 hEa
     obtain ⟨qb1,qA1,ql1,qc1,qb2,qA2,ql2,qc2,hBc,hEc⟩ := HBz.out
     have c0 := hBc.cell 0
     have c1 := hBc.cell 1
     have c2 := hBc.cell 2
     have c3 := hBc.cell 3
     simp only [List.getElem?_toArray,List.getElem?_cons_succ,List.getElem?_cons_zero] at c0 c1 c2 c3
     have HEc := Lib.hid hEc
     have uc0 := HeldB.cell c0
     have uc1 := HeldB.cell c1
     have uc2 := HeldB.cell c2
     have uc3 := HeldB.cell c3
     clear c0 c1 c2 c3 hEc hBc
     obtain ⟨tb1,tA1,tl1,tc1,tb2,tA2,tl2,tc2,d0,d1,d2,d3,hEd⟩ := HRd.out.rgt.read (i := (i - 1)) (by omega)
     have HEd := Lib.hid (hEd _ ((putQ_other _ _ (by omega)).trans (uptoQ_at _ (by omega) (by omega))))
     have ud0 := HeldB.cell d0
     have ud1 := HeldB.cell d1
     have ud2 := HeldB.cell d2
     have ud3 := HeldB.cell d3
     clear d0 d1 d2 d3 hEd
     have Hbel := Lib.hid HRd.out.st.bel
     refine wp_region_grow 15 (fun jx => if jx = 12 then some (gE (((sq - sp : Int) : Rat) / diagR b (i - 1) * rhsR b (i - 1))) else if jx = 13 then some (gE (rhs0 b i - ((sq - sp : Int) : Rat) / diagR b (i - 1) * rhsR b (i - 1))) else none) (by kernel_rfl) (by kernel_rfl) ?_
     simp only [List.take_succ_cons,List.take_zero,List.drop_succ_cons,List.drop_zero]
     refine wpG_quiet 12 (by kernel_rfl) (by rfl) (by decide) ?_
     simp only [List.take_succ_cons,List.take_zero,List.drop_succ_cons,List.drop_zero]
     repeat (go_big_quiet_step (fail))
     refine wpQuiet_nil ?_
     refine wpG_call rfl rfl ?_ ?_
     ·intro w1 hb1 hk
      have hb := (Hbel.out).trans (hb1.mono (Hbel.out).size)
      have hC := MakesE.g (bmETimes _ _ _ _ 42 6200 w1 (HEc.out.grow hb1) (HEd.out.grow hb1) (fits_div (K := 1) (M := 41) HDz.out (fits_int (by rw [Nat.pow_one];omega) (Nat.le_refl _)) HDf.out) HRf.out (by decide))
      exact ⟨237,#[.agg #[.bool qb1,.slice qA1 ql1 qc1,.bool qb2,.slice qA2 ql2 qc2],.agg #[.bool tb1,.slice tA1 tl1 tc1,.bool tb2,.slice tA2 tl2 tc2]],by go_simp,hC⟩
     rintro _ ⟨r164b1,r164A1,r164l1,r164c1,r164b2,r164A2,r164l2,r164c2,rfl⟩
     simp only [Act.put,List.setIfInBounds_toArray,List.set_cons_zero,List.set_cons_succ]
     refine wpG_call rfl rfl ?_ ?_
     ·intro w1 hb1 hk
      have hb := (Hbel.out).trans (hb1.mono (Hbel.out).size)
      have h164 : ExactAt w1 (.agg #[.bool r164b1,.slice r164A1 r164l1 r164c1,.bool r164b2,.slice r164A2 r164l2 r164c2]) (((sq - sp : Int) : Rat) / diagR b (i - 1) * rhsR b (i - 1)) := hk 164 (of_decide_eq_true (by kernel_rfl))
      have hC := MakesE.g (bmELess _ _ _ _ 493 6242 w1 (HEa.out.grow hb1) h164 HFR.out (fits_mul (K := 42) (M := 6200) (fits_div (K := 1) (M := 41) HDz.out (fits_int (by rw [Nat.pow_one];omega) (Nat.le_refl _)) HDf.out) HRf.out) (by decide))
      exact ⟨195,#[.agg #[.bool pb1,.slice pA1 pl1 pc1,.bool pb2,.slice pA2 pl2 pc2],.agg #[.bool r164b1,.slice r164A1 r164l1 r164c1,.bool r164b2,.slice r164A2 r164l2 r164c2]],by go_simp,hC⟩
     rintro _ ⟨r165b1,r165A1,r165l1,r165c1,r165b2,r165A2,r165l2,r165c2,rfl⟩
     simp only [Act.put,List.setIfInBounds_toArray,List.set_cons_zero,List.set_cons_succ]
     refine wpG_quiet 1 (by kernel_rfl) (by rfl) (by decide) ?_
     simp only [List.take_succ_cons,List.take_zero,List.drop_succ_cons,List.drop_zero]
     repeat (go_big_quiet_step (fail))
     refine wpQuiet_nil ?_
     refine wpG_nil ?_
     intro w8 hb8 hF
     have h165 : ExactAt w8 (.agg #[.bool r165b1,.slice r165A1 r165l1 r165c1,.bool r165b2,.slice r165A2 r165l2 r165c2]) (rhs0 b i - ((sq - sp : Int) : Rat) / diagR b (i - 1) * rhsR b (i - 1)) := hF 165
     have HE165 := Lib.hid h165
     have HRe := Lib.hid (HRd.out.grow hb8)
     obtain ⟨_,_,_,_,_,_,_,_,o0,o1,o2,o3,-⟩ := HRe.out.rgt.read (i := i) (by omega)
     have fo0 := HRe.out.rgt.frozen (i * 4)
     have fo1 := HRe.out.rgt.frozen (i * 4 + 1)
     have fo2 := HRe.out.rgt.frozen (i * 4 + 2)
     have fo3 := HRe.out.rgt.frozen (i * 4 + 3)
     clear hF h165 hb8 HRd HBz Hbel ua0 ua1 ua2 ua3 HEa uc0 uc1 uc2 uc3 HEc ud0 ud1 ud2 ud3 HEd
     go_wp2_with fail
     have HRf2 := Lib.hid (HRe.out.putR (i := i) (by omega) HE165.out)
     generalize ((((w8.setCell ⟨gr,i * 4,none⟩ (.bool r165b1)).setCell ⟨gr,i * 4 + 1,none⟩ (.slice r165A1 r165l1 r165c1)).setCell ⟨gr,i * 4 + 2,none⟩ (.bool r165b2)).setCell ⟨gr,i * 4 + 3,none⟩ (.slice r165A2 r165l2 r165c2)) = W12 at *
     have HRn : Hid (MomRows w W12 b #[.string b.name,.int .i64 b.len,.slice (some ⟨bs,os,none⟩) b.sup.length cs,.slice Al b.loads.length cl,.int .i64 b.even] g5 g6 go gd gr (putQ (putQ (fun _ => none) 0 (hangR b)) (b.sup.length - 1) (hangR (turnedT b))) (uptoQ (diagR b) (i + 1)) (uptoQ (rhsR b) (i + 1))) := by
      unfold Hid
      rw [uptoQ_succ _ hi1,uptoQ_succ _ hi1,HE1.out,HE2.out,← putQ_putQ (uptoQ (rhsR b) i) i (rhs0 b i),← putQ_putQ (uptoQ (diagR b) i) i ((2 * (sq - sp + (sr - sq)) : Int) : Rat)]
      exact HRf2.out
     clear HRe HRf2 HE165 o0 o1 o2 o3 fo0 fo1 fo2 fo3
     go_roundw
     case rel => exact ⟨i + 1,by omega,by omega,by go_num,HRn⟩
     case measure => simp [intOf];omega
   ·obtain hie : i = b.sup.length - 1 := by omega
    subst hie
    have HO : Hid (MomRows w wr b #[.string b.name,.int .i64 b.len,.slice (some ⟨bs,os,none⟩) b.sup.length cs,.slice Al b.loads.length cl,.int .i64 b.even] g5 g6 go gd gr (backQ b (b.sup.length - 2)) (uptoQ (diagR b) (b.sup.length - 1)) (uptoQ (rhsR b) (b.sup.length - 1))) := HR.out.weakO fun j q hj h => backQ_start b (by omega) hj h
    have kz : decide (((b.sup.length - 1 : Nat) : Int) < (b.sup.length : Int) - 1) = false := decide_eq_false (by omega)
    have kz2 : ((b.sup.length - 1 : Nat) : Int) = (b.sup.length : Int) - 1 := by omega
    rw [kz2] at kz ⊢
    have kz3 : (b.sup.length : Int) - 2 = ((b.sup.length - 2 : Nat) : Int) := by omega
    have KZ := Lib.hid kz3
    clear HR hil k0 k01 kz2 kz3
    go_wp2_with fail
    rw [KZ.out]
    clear KZ kz
    go_loopw [14] (fun ix wr => ∃ i : Nat,i + 2 ≤ b.sup.length ∧ ix = .int .i64 i ∧ Hid (MomRows w wr b #[.string b.name,.int .i64 b.len,.slice (some ⟨bs,os,none⟩) b.sup.length cs,.slice Al b.loads.length cl,.int .i64 b.even] g5 g6 go gd gr (backQ b i) (uptoQ (diagR b) (b.sup.length - 1)) (uptoQ (rhsR b) (b.sup.length - 1)))) (fun ix _ => (intOf ix).toNat)
    case atStart => exact ⟨b.sup.length - 2,by omega,rfl,HO⟩
    case round =>
     clear HO
     obtain ⟨i,him,rfl,HR⟩ := hrel
     have k01 : (i : Int) ≤ 10 := by omega
     rcases Nat.eq_zero_or_pos i with h0 | h0
     ·subst h0
      have HX := Lib.hid (HR.out.out.weak fun j q _ h => backQ_all b h)
      have HBl := Lib.hid HR.out.st.bel
      clear HR
      go_wp2_with fail
      refine bodyPost_ret (results_tmp2 rfl _ _ _) (by rfl) ?_
      exact ⟨HBl.out,.slice (some ⟨go,0,none⟩) b.sup.length b.sup.length,by rw [HT.out];rfl,go,by rw [moml_len],by rw [moml_len];exact HX.out⟩
     ·have k0 : (1 : Int) ≤ (i : Int) := by omega
      have k02 : (0 : Int) < (i : Int) := by omega
      have y0 := HR.out.st.bm.cell 0
      have y1 := HR.out.st.bm.cell 1
      have y2 := HR.out.st.bm.cell 2
      have y3 := HR.out.st.bm.cell 3
      have y4 := HR.out.st.bm.cell 4
      simp only [List.getElem?_toArray,List.getElem?_cons_succ,List.getElem?_cons_zero] at y0 y1 y2 y3 y4
      have z1 := (HR.out.st.bel.cell (p := ⟨bs,os + i,none⟩) hbs).trans (HSx.out i (by omega))
      have z2 := (HR.out.st.bel.cell (p := ⟨bs,os + (i + 1),none⟩) hbs).trans (HSx.out (i + 1) (by omega))
      have t1 := Hb.out.sup i (by omega)
      have t2 := Hb.out.inc i (by omega)
      have t3 := Hb.out.sup (i + 1) (by omega)
      have t4 := Hb.out.len
      have HN : Hid (spanK b (i + 1) = supAt b (i + 1) - supAt b i) := rfl
      have HMs := Lib.hid (mom_step b h0 (show i + 1 < b.sup.length by omega))
      rw [HN.out] at HMs
      have HDz := Lib.hid (diag_ne Hb.out (i := i) h0 (by omega))
      have HDf := Lib.hid (fits_mono (M := 41) (diag_fits Hb.out i h0 (by omega)) (by omega))
      have HRf := Lib.hid (fits_mono (M := 6200) (rhs_fits Hb.out i h0 (by omega)) (by omega))
      have HMf := Lib.hid (mom_fits Hb.out (i := i + 1) (by omega))
      generalize supAt b i = sq at *
      generalize supAt b (i + 1) = sr at *
      obtain ⟨t11,t12⟩ := t1
      obtain ⟨t31,t32⟩ := t3
      obtain ⟨t41,t42⟩ := t4
      have i3 : ((i : Int) + 1).toNat = i + 1 := by omega
      have i6 : (i : Int) + 1 < (b.sup.length : Int) := by omega
      have i7 : (i : Int) < (b.sup.length : Int) := by omega
      have i8 : (0 : Int) ≤ (i : Int) := by omega
      have i9 : (0 : Int) ≤ (i : Int) + 1 := by omega
      have v2 : IntKind.i64.wrap ((i : Int) + 1) = (i : Int) + 1 := IntWalk.i64_in _ (by omega)
      have v4 : IntKind.i64.wrap (sr - sq) = sr - sq := IntWalk.i64_in _ (by omega)
      go_wp2_with fail
      go_quiet (fail)
      go_wp2_with fail
      have HR1 := Lib.hid (HR.out.drew nq)
      generalize wr.drewN nq = W9 at *
      clear HR y0 y1 y2 y3 y4 z1 z2
      obtain ⟨pb1,pA1,pl1,pc1,pb2,pA2,pl2,pc2,a0,a1,a2,a3,hEa⟩ := HR1.out.rgt.read (i := i) (by omega)
      have HEa := Lib.hid (hEa _ (uptoQ_at _ h0 (by omega)))
      have ua0 := HeldB.cell a0
      have ua1 := HeldB.cell a1
      have ua2 := HeldB.cell a2
      have ua3 := HeldB.cell a3
      clear a0 a1 a2 a3 hEa
      obtain ⟨qb1,qA1,ql1,qc1,qb2,qA2,ql2,qc2,c0,c1,c2,c3,hEc⟩ := HR1.out.out.read (i := (i + 1)) (by omega)
      have HEc := Lib.hid (hEc _ (backQ_at b (Nat.lt_succ_self i)))
      have uc0 := HeldB.cell c0
      have uc1 := HeldB.cell c1
      have uc2 := HeldB.cell c2
      have uc3 := HeldB.cell c3
      clear c0 c1 c2 c3 hEc
      obtain ⟨tb1,tA1,tl1,tc1,tb2,tA2,tl2,tc2,d0,d1,d2,d3,hEd⟩ := HR1.out.dia.read (i := i) (by omega)
      have HEd := Lib.hid (hEd _ (uptoQ_at _ h0 (by omega)))
      have ud0 := HeldB.cell d0
      have ud1 := HeldB.cell d1
      have ud2 := HeldB.cell d2
      have ud3 := HeldB.cell d3
      clear d0 d1 d2 d3 hEd
      have Hbel := Lib.hid HR1.out.st.bel
      refine wp_region_grow 21 (fun jx => if jx = 12 then some (gE (((sr - sq : Int) : Rat))) else if jx = 13 then some (gE (momAt b (i + 1) * ((sr - sq : Int) : Rat))) else if jx = 14 then some (gE (rhsR b i - momAt b (i + 1) * ((sr - sq : Int) : Rat))) else if jx = 19 then some (gE ((rhsR b i - momAt b (i + 1) * ((sr - sq : Int) : Rat)) / diagR b i)) else none) (by kernel_rfl) (by kernel_rfl) ?_
      simp only [List.take_succ_cons,List.take_zero,List.drop_succ_cons,List.drop_zero]
      refine wpG_quiet 12 (by kernel_rfl) (by rfl) (by decide) ?_
      simp only [List.take_succ_cons,List.take_zero,List.drop_succ_cons,List.drop_zero]
      repeat (go_big_quiet_step (fail))
      refine wpQuiet_nil ?_
      refine wpG_call rfl rfl ?_ ?_
      ·intro w1 hb1 hk
       have hb := (Hbel.out).trans (hb1.mono (Hbel.out).size)
       have hC := MakesE.g (bmWhole (sr - sq) w1 (by omega) (by omega))
       exact ⟨192,#[.int .i64 (sr - sq)],by go_simp,hC⟩
      rintro _ ⟨r197b1,r197A1,r197l1,r197c1,r197b2,r197A2,r197l2,r197c2,rfl⟩
      simp only [Act.put,List.setIfInBounds_toArray,List.set_cons_zero,List.set_cons_succ]
      refine wpG_call rfl rfl ?_ ?_
      ·intro w1 hb1 hk
       have hb := (Hbel.out).trans (hb1.mono (Hbel.out).size)
       have h197 : ExactAt w1 (.agg #[.bool r197b1,.slice r197A1 r197l1 r197c1,.bool r197b2,.slice r197A2 r197l2 r197c2]) (((sr - sq : Int) : Rat)) := hk 197 (of_decide_eq_true (by kernel_rfl))
       have hC := MakesE.g (bmETimes _ _ _ _ 60000 1 w1 (HEc.out.grow hb1) h197 HMf.out (fits_int (by rw [Nat.pow_one];omega) (Nat.le_refl _)) (by decide))
       exact ⟨237,#[.agg #[.bool qb1,.slice qA1 ql1 qc1,.bool qb2,.slice qA2 ql2 qc2],.agg #[.bool r197b1,.slice r197A1 r197l1 r197c1,.bool r197b2,.slice r197A2 r197l2 r197c2]],by go_simp,hC⟩
      rintro _ ⟨r198b1,r198A1,r198l1,r198c1,r198b2,r198A2,r198l2,r198c2,rfl⟩
      simp only [Act.put,List.setIfInBounds_toArray,List.set_cons_zero,List.set_cons_succ]
      refine wpG_call rfl rfl ?_ ?_
      ·intro w1 hb1 hk
       have hb := (Hbel.out).trans (hb1.mono (Hbel.out).size)
       have h198 : ExactAt w1 (.agg #[.bool r198b1,.slice r198A1 r198l1 r198c1,.bool r198b2,.slice r198A2 r198l2 r198c2]) (momAt b (i + 1) * ((sr - sq : Int) : Rat)) := hk 198 (of_decide_eq_true (by kernel_rfl))
       have hC := MakesE.g (bmELess _ _ _ _ 6200 60001 w1 (HEa.out.grow hb1) h198 HRf.out (fits_mul (K := 60000) (M := 1) HMf.out (fits_int (by rw [Nat.pow_one];omega) (Nat.le_refl _))) (by decide))
       exact ⟨195,#[.agg #[.bool pb1,.slice pA1 pl1 pc1,.bool pb2,.slice pA2 pl2 pc2],.agg #[.bool r198b1,.slice r198A1 r198l1 r198c1,.bool r198b2,.slice r198A2 r198l2 r198c2]],by go_simp,hC⟩
      rintro _ ⟨r199b1,r199A1,r199l1,r199c1,r199b2,r199A2,r199l2,r199c2,rfl⟩
      simp only [Act.put,List.setIfInBounds_toArray,List.set_cons_zero,List.set_cons_succ]
      refine wpG_quiet 4 (by kernel_rfl) (by rfl) (by decide) ?_
      simp only [List.take_succ_cons,List.take_zero,List.drop_succ_cons,List.drop_zero]
      repeat (go_big_quiet_step (fail))
      refine wpQuiet_nil ?_
      refine wpG_call rfl rfl ?_ ?_
      ·intro w1 hb1 hk
       have hb := (Hbel.out).trans (hb1.mono (Hbel.out).size)
       have h199 : ExactAt w1 (.agg #[.bool r199b1,.slice r199A1 r199l1 r199c1,.bool r199b2,.slice r199A2 r199l2 r199c2]) (rhsR b i - momAt b (i + 1) * ((sr - sq : Int) : Rat)) := hk 199 (of_decide_eq_true (by kernel_rfl))
       have hC := MakesE.g (bmEBy _ _ _ _ 66202 41 w1 h199 (HEd.out.grow hb1) (fits_sub (K := 6200) (M := 60001) HRf.out (fits_mul (K := 60000) (M := 1) HMf.out (fits_int (by rw [Nat.pow_one];omega) (Nat.le_refl _)))) HDf.out HDz.out (by decide))
       exact ⟨196,#[.agg #[.bool r199b1,.slice r199A1 r199l1 r199c1,.bool r199b2,.slice r199A2 r199l2 r199c2],.agg #[.bool tb1,.slice tA1 tl1 tc1,.bool tb2,.slice tA2 tl2 tc2]],by go_simp,hC⟩
      rintro _ ⟨r204b1,r204A1,r204l1,r204c1,r204b2,r204A2,r204l2,r204c2,rfl⟩
      simp only [Act.put,List.setIfInBounds_toArray,List.set_cons_zero,List.set_cons_succ]
      refine wpG_quiet 1 (by kernel_rfl) (by rfl) (by decide) ?_
      simp only [List.take_succ_cons,List.take_zero,List.drop_succ_cons,List.drop_zero]
      repeat (go_big_quiet_step (fail))
      refine wpQuiet_nil ?_
      refine wpG_nil ?_
      intro w8 hb8 hF
      have h204 : ExactAt w8 (.agg #[.bool r204b1,.slice r204A1 r204l1 r204c1,.bool r204b2,.slice r204A2 r204l2 r204c2]) ((rhsR b i - momAt b (i + 1) * ((sr - sq : Int) : Rat)) / diagR b i) := hF 204
      rw [← HMs.out] at h204
      have HE204 := Lib.hid h204
      have HRa := Lib.hid (HR1.out.grow hb8)
      obtain ⟨_,_,_,_,_,_,_,_,o0,o1,o2,o3,-⟩ := HRa.out.out.read (i := i) (by omega)
      have fo0 := HRa.out.out.frozen (i * 4)
      have fo1 := HRa.out.out.frozen (i * 4 + 1)
      have fo2 := HRa.out.out.frozen (i * 4 + 2)
      have fo3 := HRa.out.out.frozen (i * 4 + 3)
      clear hF h204 hb8 HR1 Hbel ua0 ua1 ua2 ua3 HEa uc0 uc1 uc2 uc3 HEc ud0 ud1 ud2 ud3 HEd
      go_wp2_with fail
      have HRb := Lib.hid (HRa.out.putO (i := i) (by omega) HE204.out)
      rw [backQ_step b h0] at HRb
      generalize ((((w8.setCell ⟨go,i * 4,none⟩ (.bool r204b1)).setCell ⟨go,i * 4 + 1,none⟩ (.slice r204A1 r204l1 r204c1)).setCell ⟨go,i * 4 + 2,none⟩ (.bool r204b2)).setCell ⟨go,i * 4 + 3,none⟩ (.slice r204A2 r204l2 r204c2)) = W10 at *
      clear HRa HE204 o0 o1 o2 o3 fo0 fo1 fo2 fo3
      go_roundw
      case rel => exact ⟨i - 1,by omega,by congr 1;omega,HRb⟩
      case measure => simp [intOf];omega
end Go.Proofs.YtknkhnahflmjiaaGreatDoor
